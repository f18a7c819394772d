-- Printed by this session's program wip/xp.py (a turned copy of the kit's printer): functions, their contracts.
import Derived.Test.YtmjgifhgodgghaaDoorPx0
import Derived.Test.YtmjgifhgodgghaaDoorPx2
import Derived.Test.YtmjgifhgodgghaaDoorPx9
import Derived.Test.YtmjgifhgodgghaaDoorPx16
import Derived.Test.YtmjgifhgodgghaaDoorPx17
import Derived.Test.YtmjgifhgodgghaaDoorPx25
import Derived.Test.YtmjgifhgodgghaaDoorPx26
import Derived.Test.YtmjgifhgodgghaaDoorPx27
namespace Go.Proofs.YtmjgifhgodgghaaDoor.P
open Go.RowKit Go.Proofs.YtmjgifhgodgghaaDoorW.PrintWords Go.Proofs.YtmjgifhgodgghaaDoorW.PrintLast Go.Proofs.YtmjgifhgodgghaaDoorW.PrintMore
attribute [local go_sem] max2_int min2_int max_two min_two max_three min_three max_four min_four   -- for this text's walks alone
set_option linter.unusedVariables false
set_option linter.unusedSimpArgs false

attribute [local go_sem high] eqA44
/-! ### carillonlaw06_SegmentFinds: function 5 -/
mutual
def carillonlaw06_SegmentFinds.j0 : Nat → Int → ByteArray → Int → Int → Bool → List (S44) → List (S44) → Bool → Option (Bool)
 | 0, _, _, _, _, _, _, _, _ => none
 | k + 1, x0, x1, x3, x4, x11, x12, x14, x53 => if x53 = true then (some false) else (carillonlaw06_SegmentFinds.l0 k x0 x1 x3 x4 x11 x12 x14 0)
def carillonlaw06_SegmentFinds.l0 : Nat → Int → ByteArray → Int → Int → Bool → List (S44) → List (S44) → Int → Option (Bool)
 | 0, _, _, _, _, _, _, _, _ => none
 | k + 1, x0, x1, x3, x4, x11, x12, x14, x16 => if x16 < (x12.length : Int) then (if 0 ≤ x16 then (if x16 < (x14.length : Int) then (if (!(((rd_T44 x12 x16).f0) == ((rd_T44 x14 x16).f0)) || (!(((rd_T44 x12 x16).f1) == ((rd_T44 x14 x16).f1)))) = true then (some false) else (carillonlaw06_SegmentFinds.l0 k x0 x1 x3 x4 x11 x12 x14 (wrap64 (x16 + 1)))) else (none)) else (none)) else ((segment_Find.f x12 x3).bind fun t428 => ((carillonref06_Find.f k x14 x3).bind fun t429 => (if t428 = t429 then ((segment_From.f k x0 x1 x12 x3 x4).bind fun t430 => ((carillonref06_From.f k x0 x1 x3 x4).bind fun t433 => ((carillonlaw06_records.f k t430 t433).bind fun t436 => (if x11 = true then (some t436) else (some false))))) else (some false))))
end
def carillonlaw06_SegmentFinds.f (k : Nat) (a0 : Int) (a1 : ByteArray) (a2 : Int) (a3 : Int) (a4 : Int) : Option (Bool) := (carillonlaw06_examples.f).bind fun t417 => ((segment_Index.f k a0 a1 a2).bind fun bt418 => ((carillonref06_Index.f k a0 a1 a2).bind fun bt422 => (if ((bt418.2 == 0) != bt422.2) = true then (carillonlaw06_SegmentFinds.j0 k a0 a1 a3 a4 t417 bt418.1 bt422.1 true) else (if bt422.2 = true then (carillonlaw06_SegmentFinds.j0 k a0 a1 a3 a4 t417 bt418.1 bt422.1 ((bt418.1.length : Int) != (bt422.1.length : Int))) else (if bt418.2 = 1 then (carillonlaw06_SegmentFinds.j0 k a0 a1 a3 a4 t417 bt418.1 bt422.1 ((bt418.1.length : Int) != (bt422.1.length : Int))) else (carillonlaw06_SegmentFinds.j0 k a0 a1 a3 a4 t417 bt418.1 bt422.1 true))))))
theorem carillonlaw06_SegmentFinds.mono_l : ∀ k, (∀ y0 y1 y2 y3 y4 y5 y6 y7, LeO (carillonlaw06_SegmentFinds.j0 k y0 y1 y2 y3 y4 y5 y6 y7) (carillonlaw06_SegmentFinds.j0 (k + 1) y0 y1 y2 y3 y4 y5 y6 y7)) ∧ (∀ y0 y1 y2 y3 y4 y5 y6 y7, LeO (carillonlaw06_SegmentFinds.l0 k y0 y1 y2 y3 y4 y5 y6 y7) (carillonlaw06_SegmentFinds.l0 (k + 1) y0 y1 y2 y3 y4 y5 y6 y7))
 | 0 => ⟨fun _ _ _ _ _ _ _ _ r h => by simp [carillonlaw06_SegmentFinds.j0] at h, fun _ _ _ _ _ _ _ _ r h => by simp [carillonlaw06_SegmentFinds.l0] at h⟩
 | k + 1 => by
  obtain ⟨ih0, ih1⟩ := carillonlaw06_SegmentFinds.mono_l k
  refine ⟨?_, ?_⟩
  ·intro y0 y1 y2 y3 y4 y5 y6 y7
   unfold carillonlaw06_SegmentFinds.j0
   repeat' first
   | (with_reducible exact ih0 _ _ _ _ _ _ _ _)
   | (with_reducible exact ih1 _ _ _ _ _ _ _ _)
   | (with_reducible exact carillonlaw06_records.mono _ _ _)
   | (with_reducible exact carillonref06_Find.mono _ _ _)
   | (with_reducible exact carillonref06_From.mono _ _ _ _ _)
   | (with_reducible exact carillonref06_Index.mono _ _ _ _)
   | (with_reducible exact segment_From.mono _ _ _ _ _ _)
   | (with_reducible exact segment_Index.mono _ _ _ _)
   | (with_reducible exact LeO.refl _)
   | (with_reducible exact LeO.none _)
   | (with_reducible refine LeO.ite ?_ ?_)
   | (with_reducible refine LeO.bind ?_ (fun _ => ?_))
   | exact ih0 _ _ _ _ _ _ _ _
   | exact ih1 _ _ _ _ _ _ _ _
   | exact carillonlaw06_records.mono _ _ _
   | exact carillonref06_Find.mono _ _ _
   | exact carillonref06_From.mono _ _ _ _ _
   | exact carillonref06_Index.mono _ _ _ _
   | exact segment_From.mono _ _ _ _ _ _
   | exact segment_Index.mono _ _ _ _
   | exact LeO.none _
   | refine LeO.ite ?_ ?_
   | refine LeO.bind ?_ (fun _ => ?_)
  ·intro y0 y1 y2 y3 y4 y5 y6 y7
   unfold carillonlaw06_SegmentFinds.l0
   repeat' first
   | (with_reducible exact ih0 _ _ _ _ _ _ _ _)
   | (with_reducible exact ih1 _ _ _ _ _ _ _ _)
   | (with_reducible exact carillonlaw06_records.mono _ _ _)
   | (with_reducible exact carillonref06_Find.mono _ _ _)
   | (with_reducible exact carillonref06_From.mono _ _ _ _ _)
   | (with_reducible exact carillonref06_Index.mono _ _ _ _)
   | (with_reducible exact segment_From.mono _ _ _ _ _ _)
   | (with_reducible exact segment_Index.mono _ _ _ _)
   | (with_reducible exact LeO.refl _)
   | (with_reducible exact LeO.none _)
   | (with_reducible refine LeO.ite ?_ ?_)
   | (with_reducible refine LeO.bind ?_ (fun _ => ?_))
   | exact ih0 _ _ _ _ _ _ _ _
   | exact ih1 _ _ _ _ _ _ _ _
   | exact carillonlaw06_records.mono _ _ _
   | exact carillonref06_Find.mono _ _ _
   | exact carillonref06_From.mono _ _ _ _ _
   | exact carillonref06_Index.mono _ _ _ _
   | exact segment_From.mono _ _ _ _ _ _
   | exact segment_Index.mono _ _ _ _
   | exact LeO.none _
   | refine LeO.ite ?_ ?_
   | refine LeO.bind ?_ (fun _ => ?_)
theorem carillonlaw06_SegmentFinds.mono : ∀ a0 a1 a2 a3 a4 k, LeO (carillonlaw06_SegmentFinds.f k a0 a1 a2 a3 a4) (carillonlaw06_SegmentFinds.f (k + 1) a0 a1 a2 a3 a4) := by
 intro a0 a1 a2 a3 a4 k
 obtain ⟨ih0, ih1⟩ := carillonlaw06_SegmentFinds.mono_l k
 unfold carillonlaw06_SegmentFinds.f
 repeat' first
   | (with_reducible exact ih0 _ _ _ _ _ _ _ _)
   | (with_reducible exact ih1 _ _ _ _ _ _ _ _)
   | (with_reducible exact carillonlaw06_records.mono _ _ _)
   | (with_reducible exact carillonref06_Find.mono _ _ _)
   | (with_reducible exact carillonref06_From.mono _ _ _ _ _)
   | (with_reducible exact carillonref06_Index.mono _ _ _ _)
   | (with_reducible exact segment_From.mono _ _ _ _ _ _)
   | (with_reducible exact segment_Index.mono _ _ _ _)
   | (with_reducible exact LeO.refl _)
   | (with_reducible exact LeO.none _)
   | (with_reducible refine LeO.ite ?_ ?_)
   | (with_reducible refine LeO.bind ?_ (fun _ => ?_))
   | exact ih0 _ _ _ _ _ _ _ _
   | exact ih1 _ _ _ _ _ _ _ _
   | exact carillonlaw06_records.mono _ _ _
   | exact carillonref06_Find.mono _ _ _
   | exact carillonref06_From.mono _ _ _ _ _
   | exact carillonref06_Index.mono _ _ _ _
   | exact segment_From.mono _ _ _ _ _ _
   | exact segment_Index.mono _ _ _ _
   | exact LeO.none _
   | refine LeO.ite ?_ ?_
   | refine LeO.bind ?_ (fun _ => ?_)
set_option maxHeartbeats 8000000 in
set_option maxRecDepth 100000 in
theorem carillonlaw06_SegmentFinds.calls (k : Nat) (a0 : Int) (a1 : ByteArray) (a2 : Int) (a3 : Int) (a4 : Int) (r : Bool) (w : World) (hr_ : Aside0 (r = true)) (HT_ : TabOk w) (h : carillonlaw06_SegmentFinds.f k a0 a1 a2 a3 a4 = some r) :
  Calls Tryd.prog 5 #[.int .i64 a0, .string a1, .int .i64 a2, .int .i64 a3, .int .i64 a4] w fun e w' => e = .returned (.bool r) ∧ Below w.heap.size w w' := by
 have HT := Aside0.mk HT_
 clear HT_
 have hu44 := Tryd.underlying44
 have HB := Aside0.mk (Below.refl w.heap.size w)
 have H : ((carillonlaw06_examples.f).bind fun t417 => ((segment_Index.f k a0 a1 a2).bind fun bt418 => ((carillonref06_Index.f k a0 a1 a2).bind fun bt422 => (if ((bt418.2 == 0) != bt422.2) = true then (carillonlaw06_SegmentFinds.j0 k a0 a1 a3 a4 t417 bt418.1 bt422.1 true) else (if bt422.2 = true then (carillonlaw06_SegmentFinds.j0 k a0 a1 a3 a4 t417 bt418.1 bt422.1 ((bt418.1.length : Int) != (bt422.1.length : Int))) else (if bt418.2 = 1 then (carillonlaw06_SegmentFinds.j0 k a0 a1 a3 a4 t417 bt418.1 bt422.1 ((bt418.1.length : Int) != (bt422.1.length : Int))) else (carillonlaw06_SegmentFinds.j0 k a0 a1 a3 a4 t417 bt418.1 bt422.1 true))))))) = some r := h
 clear h
 replace H := Option.bind_eq_some_iff.mp H
 obtain ⟨t417, A60, H⟩ := H
 replace H : ((segment_Index.f k a0 a1 a2).bind fun bt418 => ((carillonref06_Index.f k a0 a1 a2).bind fun bt422 => (if ((bt418.2 == 0) != bt422.2) = true then (carillonlaw06_SegmentFinds.j0 k a0 a1 a3 a4 t417 bt418.1 bt422.1 true) else (if bt422.2 = true then (carillonlaw06_SegmentFinds.j0 k a0 a1 a3 a4 t417 bt418.1 bt422.1 ((bt418.1.length : Int) != (bt422.1.length : Int))) else (if bt418.2 = 1 then (carillonlaw06_SegmentFinds.j0 k a0 a1 a3 a4 t417 bt418.1 bt422.1 ((bt418.1.length : Int) != (bt422.1.length : Int))) else (carillonlaw06_SegmentFinds.j0 k a0 a1 a3 a4 t417 bt418.1 bt422.1 true)))))) = some r := H
 have A6 := Aside0.mk A60
 clear A60
 replace H := Option.bind_eq_some_iff.mp H
 obtain ⟨⟨t418, t419⟩, A70, H⟩ := H
 replace H : ((carillonref06_Index.f k a0 a1 a2).bind fun bt422 => (if ((t419 == 0) != bt422.2) = true then (carillonlaw06_SegmentFinds.j0 k a0 a1 a3 a4 t417 t418 bt422.1 true) else (if bt422.2 = true then (carillonlaw06_SegmentFinds.j0 k a0 a1 a3 a4 t417 t418 bt422.1 ((t418.length : Int) != (bt422.1.length : Int))) else (if t419 = 1 then (carillonlaw06_SegmentFinds.j0 k a0 a1 a3 a4 t417 t418 bt422.1 ((t418.length : Int) != (bt422.1.length : Int))) else (carillonlaw06_SegmentFinds.j0 k a0 a1 a3 a4 t417 t418 bt422.1 true))))) = some r := H
 have A7 := Aside0.mk A70
 clear A70
 replace H := Option.bind_eq_some_iff.mp H
 obtain ⟨⟨t422, t423⟩, A80, H⟩ := H
 replace H : (if ((t419 == 0) != t423) = true then (carillonlaw06_SegmentFinds.j0 k a0 a1 a3 a4 t417 t418 t422 true) else (if t423 = true then (carillonlaw06_SegmentFinds.j0 k a0 a1 a3 a4 t417 t418 t422 ((t418.length : Int) != (t422.length : Int))) else (if t419 = 1 then (carillonlaw06_SegmentFinds.j0 k a0 a1 a3 a4 t417 t418 t422 ((t418.length : Int) != (t422.length : Int))) else (carillonlaw06_SegmentFinds.j0 k a0 a1 a3 a4 t417 t418 t422 true)))) = some r := H
 have A8 := Aside0.mk A80
 clear A80
 have HC9 := Aside0.mk H
 clear H
 go_enter Tryd.func5, Tryd.ntmps5
 go_upto_region 4 with (first | (go_at_call 9; (with_reducible refine (carillonlaw06_examples.calls  t417 _ tbk A6.out).mono ?_); rintro e w10 ⟨rfl, hb⟩; have n0_ := Aside0.mk (below_step bw hb); clear HB; have HB := n0_; clear n0_; (try clear hb); (try clear hb2); (try clear hk); (try clear hi)) | (go_at_call 17; (with_reducible refine (segment_Index.calls k a0 a1 a2 t418 t419 _ tbk A7.out).mono ?_); rintro e w11 ⟨v420, rfl, ho0, hb⟩; have n0_ := Aside0.mk (Kd.R_lower ho0 (below_size bw)); have n1_ := Aside0.mk (below_step bw hb); clear HB; have HO421 := n0_; have HB := n1_; clear n0_ n1_; (try clear hb); (try clear hb2); (try clear hk); (try clear hi); (try clear ho0)) | (go_at_call 18; (with_reducible refine (carillonref06_Index.calls k a0 a1 a2 t422 t423 _ A8.out).mono ?_); rintro e w12 ⟨v424, rfl, ho0, hb⟩; have n0_ := Aside0.mk (Kd.R_elder' (by (with_reducible repeat (first | apply Kd.R_alloc | apply Kd.R_drewN | apply Kd.R_drew)); exact HO421.out) (Kd.R_base ho0) hb); have n1_ := Aside0.mk (Kd.R_lower (Kd.R_new' ho0 (Kd.R_lt (by (with_reducible repeat (first | apply Kd.R_alloc | apply Kd.R_drewN | apply Kd.R_drew)); exact HO421.out))) (below_size bw)); have n2_ := Aside0.mk (below_step bw hb); clear HO421; clear HB; have HO421 := n0_; have HO425 := n1_; have HB := n2_; clear n0_ n1_ n2_; (try clear hb); (try clear hb2); (try clear hk); (try clear hi); (try clear ho0)))
 (try simp only [Act.put, sl1, sl2, sl3])
 go_cut [53] (fun v53 wc => ∃ (kq : Nat) (x53_8 : Bool), v53 = .bool x53_8 ∧ Aside0 (carillonlaw06_SegmentFinds.j0 kq a0 a1 a3 a4 t417 t418 t422 x53_8 = some r) ∧ Aside0 (kq ≤ k) ∧ Aside0 (Kd.R k44 44 wc w.heap.size (fun k_ => some k_ ≠ (v424 : Value).ownBlock) v420 t418) ∧ Aside0 (Kd.R k44 44 wc w.heap.size (fun k_ => some k_ ≠ (v420 : Value).ownBlock) v424 t422) ∧ Aside0 (Below w.heap.size w wc))
 case first =>
  have H := HC9.out
  clear HC9
  by_cases c13 : ((t419 == 0) != t423) = true
  ·rw [if_pos c13] at H
   have c13b0 : ((t419 == 0) != t423) = true := c13
   (try (have c13b1 : decide ((t419 == 0) = t423) = false := by simpa using c13))
   (try (have c13b2 : ((t419 == 0) == t423) = false := by simpa using c13))
   (try (have c13b3 : ¬ ((t419 == 0) = t423) := by simpa using c13))
   clear c13
   (first | rw [c13b0] | (simp only [i64_w, i32_w]; rw [c13b0]) | skip)
   have H' := Aside0.mk H
   clear H
   go_wp2
   go_meet
   case rel => exact ⟨_, (true), (by first | rfl | (simp; done) | (simp [*]; done)), H', ⟨by first | omega | exact Nat.le_refl _⟩, ⟨by (with_reducible repeat (first | apply Kd.R_alloc | apply Kd.R_drewN | apply Kd.R_drew)); exact Kd.R_mono HO421.out (fun _ hk => hk.2)⟩, ⟨by (with_reducible repeat (first | apply Kd.R_alloc | apply Kd.R_drewN | apply Kd.R_drew)); exact Kd.R_mono HO425.out (fun _ hk => hk.2)⟩, ⟨bw⟩⟩
  ·rw [if_neg c13] at H
   have c13b0 : ((t419 == 0) != t423) = false := by simpa using c13
   (try (have c13b1 : decide ((t419 == 0) = t423) = true := by simpa using c13))
   (try (have c13b2 : ((t419 == 0) == t423) = true := by simpa using c13))
   clear c13
   (first | rw [c13b0] | (simp only [i64_w, i32_w]; rw [c13b0]) | skip)
   by_cases c14 : t423 = true
   ·subst c14
    have H1 : (carillonlaw06_SegmentFinds.j0 k a0 a1 a3 a4 t417 t418 t422 ((t418.length : Int) != (t422.length : Int))) = some r := by rw [if_pos rfl] at H; exact H
    clear H
    have H := H1
    clear H1
    have H' := Aside0.mk H
    clear H
    obtain ⟨Ao15, co15, eo15⟩ := Kd.R_slice HO421.out
    subst eo15
    obtain ⟨Ao16, co16, eo16⟩ := Kd.R_slice HO425.out
    subst eo16
    go_wp2
    go_meet
    case rel => exact ⟨_, (((t418.length : Int) != (t422.length : Int))), (by first | rfl | (simp; done) | (simp [*]; done)), H', ⟨by first | omega | exact Nat.le_refl _⟩, ⟨by (with_reducible repeat (first | apply Kd.R_alloc | apply Kd.R_drewN | apply Kd.R_drew)); exact Kd.R_mono HO421.out (fun _ hk => hk.2)⟩, ⟨by (with_reducible repeat (first | apply Kd.R_alloc | apply Kd.R_drewN | apply Kd.R_drew)); exact Kd.R_mono HO425.out (fun _ hk => hk.2)⟩, ⟨bw⟩⟩
   ·replace c14 := Bool.eq_false_iff.mpr c14
    subst c14
    have H1 : (if t419 = 1 then (carillonlaw06_SegmentFinds.j0 k a0 a1 a3 a4 t417 t418 t422 ((t418.length : Int) != (t422.length : Int))) else (carillonlaw06_SegmentFinds.j0 k a0 a1 a3 a4 t417 t418 t422 true)) = some r := by rw [if_neg (show ¬ (false = true) by decide)] at H; exact H
    clear H
    have H := H1
    clear H1
    by_cases c17 : t419 = 1
    ·rw [if_pos c17] at H
     have c17b0 : (t419 == 1) = true := beq_iff_eq.mpr c17
     have c17b1 : (t419 != 1) = false := bne_eq_false_iff_eq.mpr c17
     clear c17
     have H' := Aside0.mk H
     clear H
     obtain ⟨Ao18, co18, eo18⟩ := Kd.R_slice HO421.out
     subst eo18
     obtain ⟨Ao19, co19, eo19⟩ := Kd.R_slice HO425.out
     subst eo19
     go_wp2
     go_meet
     case rel => exact ⟨_, (((t418.length : Int) != (t422.length : Int))), (by first | rfl | (simp; done) | (simp [*]; done)), H', ⟨by first | omega | exact Nat.le_refl _⟩, ⟨by (with_reducible repeat (first | apply Kd.R_alloc | apply Kd.R_drewN | apply Kd.R_drew)); exact Kd.R_mono HO421.out (fun _ hk => hk.2)⟩, ⟨by (with_reducible repeat (first | apply Kd.R_alloc | apply Kd.R_drewN | apply Kd.R_drew)); exact Kd.R_mono HO425.out (fun _ hk => hk.2)⟩, ⟨bw⟩⟩
    ·rw [if_neg c17] at H
     have c17b0 : (t419 == 1) = false := beq_eq_false_iff_ne.mpr c17
     have c17b1 : (t419 != 1) = true := bne_iff_ne.mpr c17
     have H' := Aside0.mk H
     clear H
     go_wp2
     go_meet
     case rel => exact ⟨_, (true), (by first | rfl | (simp; done) | (simp [*]; done)), H', ⟨by first | omega | exact Nat.le_refl _⟩, ⟨by (with_reducible repeat (first | apply Kd.R_alloc | apply Kd.R_drewN | apply Kd.R_drew)); exact Kd.R_mono HO421.out (fun _ hk => hk.2)⟩, ⟨by (with_reducible repeat (first | apply Kd.R_alloc | apply Kd.R_drewN | apply Kd.R_drew)); exact Kd.R_mono HO425.out (fun _ hk => hk.2)⟩, ⟨bw⟩⟩
 case rest =>
  clear HC9
  try clear c1
  try clear p2
  try clear c5
  try clear c13
  try clear c13b0
  try clear c13b1
  try clear c13b2
  try clear c14
  try clear c17
  try clear c17b0
  try clear c17b1
  obtain ⟨kq, x53_8, rfl, HA, HJ8, HO_12, HO_14, HB⟩ := hcut
  cases kq with
  | zero => exact absurd HA.out (by simp [carillonlaw06_SegmentFinds.j0])
  | succ kj8 =>
   have H := HA.out
   clear HA
   simp only [carillonlaw06_SegmentFinds.j0] at H
   by_cases c20 : x53_8 = true
   ·subst c20
    have H1 : (some false) = some r := by rw [if_pos rfl] at H; exact H
    clear H
    have H := H1
    clear H1
    exact absurd ((Option.some.inj H).trans hr_.out) (by decide)
   ·replace c20 := Bool.eq_false_iff.mpr c20
    subst c20
    have H1 : (carillonlaw06_SegmentFinds.l0 kj8 a0 a1 a3 a4 t417 t418 t422 0) = some r := by rw [if_neg (show ¬ (false = true) by decide)] at H; exact H
    clear H
    have H := H1
    clear H1
    have H' := Aside0.mk H
    clear H
    go_wp2
    go_loopg [16] kj8 (fun kq v16 w' => ∃ (x16_2 : Int), v16 = .int .i64 x16_2 ∧ Aside0 (carillonlaw06_SegmentFinds.l0 kq a0 a1 a3 a4 t417 t418 t422 x16_2 = some r) ∧ Aside0 (kq ≤ kj8) ∧ Aside0 (Kd.R k44 44 w' w.heap.size (fun k_ => some k_ ≠ (v424 : Value).ownBlock) v420 t418) ∧ Aside0 (Kd.R k44 44 w' w.heap.size (fun k_ => some k_ ≠ (v420 : Value).ownBlock) v424 t422) ∧ Aside0 (Below w.heap.size w w'))
    case atStart => exact ⟨(0), (by first | rfl | (simp; done) | (simp [*]; done)), H', ⟨Nat.le_refl _⟩, ⟨by (with_reducible repeat (first | apply Kd.R_alloc | apply Kd.R_drewN | apply Kd.R_drew)); exact HO_12.out⟩, ⟨by (with_reducible repeat (first | apply Kd.R_alloc | apply Kd.R_drewN | apply Kd.R_drew)); exact HO_14.out⟩, ⟨bw⟩⟩
    case round =>
     clear H'
     try clear c1
     try clear c2
     try clear p2
     try clear c5
     try clear c13
     try clear c13b0
     try clear c13b1
     try clear c13b2
     try clear c14
     try clear c17
     try clear c17b0
     try clear c17b1
     try clear c20
     try clear p2
     obtain ⟨x16_2, rfl, HA, HK2, HO_12, HO_14, HB⟩ := hrel
     cases gk with
     | zero => exact absurd HA.out (by simp [carillonlaw06_SegmentFinds.l0])
     | succ k2 =>
      have H := HA.out
      clear HA
      simp only [carillonlaw06_SegmentFinds.l0] at H
      by_cases c21 : x16_2 < (t418.length : Int)
      ·rw [if_pos c21] at H
       have c21b0 : decide (x16_2 < (t418.length : Int)) = true := decide_eq_true c21
       clear c21
       by_cases c22 : 0 ≤ x16_2
       ·rw [if_pos c22] at H
        have c22b0 : decide (0 ≤ x16_2) = true := decide_eq_true c22
        clear c22
        by_cases c23 : x16_2 < (t422.length : Int)
        ·rw [if_pos c23] at H
         have c23b0 : decide (x16_2 < (t422.length : Int)) = true := decide_eq_true c23
         clear c23
         by_cases c24 : (!(((rd_T44 t418 x16_2).f0) == ((rd_T44 t422 x16_2).f0)) || (!(((rd_T44 t418 x16_2).f1) == ((rd_T44 t422 x16_2).f1)))) = true
         ·rw [if_pos c24] at H
          have c24b0 : (!(((rd_T44 t418 x16_2).f0) == ((rd_T44 t422 x16_2).f0)) || (!(((rd_T44 t418 x16_2).f1) == ((rd_T44 t422 x16_2).f1)))) = true := c24
          clear c24
          exact absurd ((Option.some.inj H).trans hr_.out) (by decide)
         ·rw [if_neg c24] at H
          have c24b0 : (!(((rd_T44 t418 x16_2).f0) == ((rd_T44 t422 x16_2).f0)) || (!(((rd_T44 t418 x16_2).f1) == ((rd_T44 t422 x16_2).f1)))) = false := by simpa using c24
          clear c24
          have H' := Aside0.mk H
          clear H
          obtain ⟨Ao25, co25, eo25⟩ := Kd.R_slice HO_12.out
          subst eo25
          have p426 : 0 ≤ (x16_2 : Int) := of_decide_eq_true (by first | (with_reducible assumption) | assumption)
          have q426 : x16_2 < (t418.length : Int) := of_decide_eq_true (by first | (with_reducible assumption) | assumption)
          obtain ⟨ad426, e426, hx426_0, hx426_1⟩ := at_T44 (Kd.R_reads' HO_12.out).2.2 x16_2 p426 q426
          cases e426
          replace p426 := eq_true p426
          replace q426 := eq_true q426
          obtain ⟨Ao26, co26, eo26⟩ := Kd.R_slice HO_14.out
          subst eo26
          have p427 : 0 ≤ (x16_2 : Int) := of_decide_eq_true (by first | (with_reducible assumption) | assumption)
          have q427 : x16_2 < (t422.length : Int) := of_decide_eq_true (by first | (with_reducible assumption) | assumption)
          obtain ⟨ad427, e427, hx427_0, hx427_1⟩ := at_T44 (Kd.R_reads' HO_14.out).2.2 x16_2 p427 q427
          cases e427
          replace p427 := eq_true p427
          replace q427 := eq_true q427
          go_wp2
          repeat (go_quiet (fail); try go_wp2)
          go_roundg k2
          case measure => have := HJ8.out; have := HK2.out; omega
          case rel => exact ⟨(wrap64 (x16_2 + 1)), (by first | rfl | (simp; done) | (simp [*]; done)), H', ⟨by have := HJ8.out; have := HK2.out; omega⟩, ⟨by (with_reducible repeat (first | apply Kd.R_alloc | apply Kd.R_drewN | apply Kd.R_drew)); exact HO_12.out⟩, ⟨by (with_reducible repeat (first | apply Kd.R_alloc | apply Kd.R_drewN | apply Kd.R_drew)); exact HO_14.out⟩, ⟨bw⟩⟩
        ·rw [if_neg c23] at H
         exact absurd H (by simp)
       ·rw [if_neg c22] at H
        exact absurd H (by simp)
      ·rw [if_neg c21] at H
       have c21b0 : decide (x16_2 < (t418.length : Int)) = false := decide_eq_false c21
       clear c21
       replace H := Option.bind_eq_some_iff.mp H
       obtain ⟨t428, A270, H⟩ := H
       replace H : ((carillonref06_Find.f k2 t422 a3).bind fun t429 => (if t428 = t429 then ((segment_From.f k2 a0 a1 t418 a3 a4).bind fun t430 => ((carillonref06_From.f k2 a0 a1 a3 a4).bind fun t433 => ((carillonlaw06_records.f k2 t430 t433).bind fun t436 => (if t417 = true then (some t436) else (some false))))) else (some false))) = some r := H
       have A27 := Aside0.mk A270
       clear A270
       replace H := Option.bind_eq_some_iff.mp H
       obtain ⟨t429, A280, H⟩ := H
       replace H : (if t428 = t429 then ((segment_From.f k2 a0 a1 t418 a3 a4).bind fun t430 => ((carillonref06_From.f k2 a0 a1 a3 a4).bind fun t433 => ((carillonlaw06_records.f k2 t430 t433).bind fun t436 => (if t417 = true then (some t436) else (some false))))) else (some false)) = some r := H
       have A28 := Aside0.mk A280
       clear A280
       by_cases c29 : t428 = t429
       ·rw [if_pos c29] at H
        have c29b0 : (t428 == t429) = true := beq_iff_eq.mpr c29
        have c29b1 : (t428 != t429) = false := bne_eq_false_iff_eq.mpr c29
        clear c29
        replace H := Option.bind_eq_some_iff.mp H
        obtain ⟨t430, A300, H⟩ := H
        replace H : ((carillonref06_From.f k2 a0 a1 a3 a4).bind fun t433 => ((carillonlaw06_records.f k2 t430 t433).bind fun t436 => (if t417 = true then (some t436) else (some false)))) = some r := H
        have A30 := Aside0.mk A300
        clear A300
        replace H := Option.bind_eq_some_iff.mp H
        obtain ⟨t433, A310, H⟩ := H
        replace H : ((carillonlaw06_records.f k2 t430 t433).bind fun t436 => (if t417 = true then (some t436) else (some false))) = some r := H
        have A31 := Aside0.mk A310
        clear A310
        replace H := Option.bind_eq_some_iff.mp H
        obtain ⟨t436, A320, H⟩ := H
        replace H : (if t417 = true then (some t436) else (some false)) = some r := H
        have A32 := Aside0.mk A320
        clear A320
        by_cases c33 : t417 = true
        ·subst c33
         have H1 : (some t436) = some r := by rw [if_pos rfl] at H; exact H
         clear H
         have H := H1
         clear H1
         obtain rfl := Option.some.inj H
         obtain ⟨Ao34, co34, eo34⟩ := Kd.R_slice HO_12.out
         subst eo34
         go_wp2_with (first | (go_at_call 19; (with_reducible refine (segment_Find.calls _ _ t418 a3 t428 _ ?side1 ?side2 A27.out).mono ?_); (case side1 => repeat (first | exact (Kd.R_reads' HO_12.out).2.2 | (with_reducible refine Kd.C_alloc ?_ _) | (with_reducible refine Kd.C_drewN ?_ _) | (with_reducible refine Kd.C_drew ?_))); (case side2 => exact (Kd.R_reads' HO_12.out).2.1); rintro e w35 ⟨rfl, hb⟩; have n0_ := Aside0.mk (Kd.R_below (by (with_reducible repeat (first | apply Kd.R_alloc | apply Kd.R_drewN | apply Kd.R_drew)); exact HO_12.out) hb); have n1_ := Aside0.mk (Kd.R_below (by (with_reducible repeat (first | apply Kd.R_alloc | apply Kd.R_drewN | apply Kd.R_drew)); exact HO_14.out) hb); have n2_ := Aside0.mk (below_step bw hb); clear HO_12; clear HO_14; clear HB; have HO_12 := n0_; have HO_14 := n1_; have HB := n2_; clear n0_ n1_ n2_; (try clear hb); (try clear hb2); (try clear hk); (try clear hi); obtain ⟨Ao36, co36, eo36⟩ := Kd.R_slice HO_14.out; subst eo36) | (go_at_call 20; (with_reducible refine (carillonref06_Find.calls k2 _ _ t422 a3 t429 _ ?side1 ?side2 A28.out).mono ?_); (case side1 => repeat (first | exact (Kd.R_reads' HO_14.out).2.2 | (with_reducible refine Kd.C_alloc ?_ _) | (with_reducible refine Kd.C_drewN ?_ _) | (with_reducible refine Kd.C_drew ?_))); (case side2 => exact (Kd.R_reads' HO_14.out).2.1); rintro e w' ⟨rfl, ⟨nd, rfl⟩⟩; (try first | exact ⟨rfl, _, World.drewN_drewN _ _ _⟩ | exact ⟨rfl, _, Eq.trans (World.drewN_drewN _ _ _) (congrArg (World.drewN _) (Nat.add_assoc _ _ _))⟩)) | (go_at_call 21; (with_reducible refine (segment_From.calls k2 a0 a1 _ _ t418 a3 a4 t430 _ ?side1 ?side2 tbk A30.out).mono ?_); (case side1 => repeat (first | exact (Kd.R_reads' HO_12.out).2.2 | (with_reducible refine Kd.C_alloc ?_ _) | (with_reducible refine Kd.C_drewN ?_ _) | (with_reducible refine Kd.C_drew ?_))); (case side2 => exact (Kd.R_reads' HO_12.out).2.1); rintro e w37 ⟨v431, rfl, ho0, hb⟩; have n0_ := Aside0.mk (Kd.R_below (by (with_reducible repeat (first | apply Kd.R_alloc | apply Kd.R_drewN | apply Kd.R_drew)); exact HO_12.out) hb); have n1_ := Aside0.mk (Kd.R_below (by (with_reducible repeat (first | apply Kd.R_alloc | apply Kd.R_drewN | apply Kd.R_drew)); exact HO_14.out) hb); have n2_ := Aside0.mk (Kd.R_lower ho0 (below_size bw)); have n3_ := Aside0.mk (below_step bw hb); clear HO_12; clear HO_14; clear HB; have HO_12 := n0_; have HO_14 := n1_; have HO432 := n2_; have HB := n3_; clear n0_ n1_ n2_ n3_; (try clear hb); (try clear hb2); (try clear hk); (try clear hi); (try clear ho0)) | (go_at_call 22; (with_reducible refine (carillonref06_From.calls k2 a0 a1 a3 a4 t433 _ A31.out).mono ?_); rintro e w38 ⟨v434, rfl, ho0, hb⟩; have n0_ := Aside0.mk (Kd.R_below (by (with_reducible repeat (first | apply Kd.R_alloc | apply Kd.R_drewN | apply Kd.R_drew)); exact HO_12.out) hb); have n1_ := Aside0.mk (Kd.R_below (by (with_reducible repeat (first | apply Kd.R_alloc | apply Kd.R_drewN | apply Kd.R_drew)); exact HO_14.out) hb); have n2_ := Aside0.mk (Kd.R_elder' (by (with_reducible repeat (first | apply Kd.R_alloc | apply Kd.R_drewN | apply Kd.R_drew)); exact HO432.out) (Kd.R_base ho0) hb); have n3_ := Aside0.mk (Kd.R_lower (Kd.R_new' ho0 (Kd.R_lt (by (with_reducible repeat (first | apply Kd.R_alloc | apply Kd.R_drewN | apply Kd.R_drew)); exact HO432.out))) (below_size bw)); have n4_ := Aside0.mk (below_step bw hb); clear HO_12; clear HO_14; clear HO432; clear HB; have HO_12 := n0_; have HO_14 := n1_; have HO432 := n2_; have HO435 := n3_; have HB := n4_; clear n0_ n1_ n2_ n3_ n4_; (try clear hb); (try clear hb2); (try clear hk); (try clear hi); (try clear ho0); obtain ⟨Ao39, co39, eo39⟩ := Kd.R_slice HO432.out; subst eo39; obtain ⟨Ao40, co40, eo40⟩ := Kd.R_slice HO435.out; subst eo40) | (go_at_call 16; (with_reducible refine (carillonlaw06_records.calls k2 _ _ t430 _ _ t433 t436 _ ?side1 ?side2 ?side3 ?side4 A32.out).mono ?_); (case side1 => repeat (first | exact (Kd.R_reads' HO432.out).2.2 | (with_reducible refine Kd.C_alloc ?_ _) | (with_reducible refine Kd.C_drewN ?_ _) | (with_reducible refine Kd.C_drew ?_))); (case side2 => exact (Kd.R_reads' HO432.out).2.1); (case side3 => repeat (first | exact (Kd.R_reads' HO435.out).2.2 | (with_reducible refine Kd.C_alloc ?_ _) | (with_reducible refine Kd.C_drewN ?_ _) | (with_reducible refine Kd.C_drew ?_))); (case side4 => exact (Kd.R_reads' HO435.out).2.1); rintro e w' ⟨rfl, ⟨nd, rfl⟩⟩; (try first | exact ⟨rfl, _, World.drewN_drewN _ _ _⟩ | exact ⟨rfl, _, Eq.trans (World.drewN_drewN _ _ _) (congrArg (World.drewN _) (Nat.add_assoc _ _ _))⟩)))
         go_ret
         exact ⟨er, bw⟩
        ·replace c33 := Bool.eq_false_iff.mpr c33
         subst c33
         have H1 : (some false) = some r := by rw [if_neg (show ¬ (false = true) by decide)] at H; exact H
         clear H
         have H := H1
         clear H1
         exact absurd ((Option.some.inj H).trans hr_.out) (by decide)
       ·rw [if_neg c29] at H
        have c29b0 : (t428 == t429) = false := beq_eq_false_iff_ne.mpr c29
        have c29b1 : (t428 != t429) = true := bne_iff_ne.mpr c29
        exact absurd ((Option.some.inj H).trans hr_.out) (by decide)

end Go.Proofs.YtmjgifhgodgghaaDoor.P
