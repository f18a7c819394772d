-- Printed by this session's program wip/xp.py (a turned copy of the kit's printer): functions, their contracts.
import Derived.Test.YtmjgifhgodgghaaDoorPx0
import Derived.Test.YtmjgifhgodgghaaDoorPx1
import Derived.Test.YtmjgifhgodgghaaDoorPx9
import Derived.Test.YtmjgifhgodgghaaDoorPx16
namespace Go.Proofs.YtmjgifhgodgghaaDoor.P
open Go.RowKit Go.Proofs.YtmjgifhgodgghaaDoorW.PrintWords Go.Proofs.YtmjgifhgodgghaaDoorW.PrintLast Go.Proofs.YtmjgifhgodgghaaDoorW.PrintMore
attribute [local go_sem] max2_int min2_int max_two min_two max_three min_three max_four min_four   -- for this text's walks alone
set_option linter.unusedVariables false
set_option linter.unusedSimpArgs false

attribute [local go_sem high] eqA23
/-! ### carillonlaw06_SegmentScans: function 4 -/
mutual
def carillonlaw06_SegmentScans.l0 : Nat → Int → ByteArray → Bool → List (S23) → Int → Int → Int → Option (Bool)
 | 0, _, _, _, _, _, _, _ => none
 | k + 1, x0, x1, x5, x6, x7, x8, x9 => if x9 < 2 then ((segment_Scan.f k x0 x1).bind fun bt382 => ((carillonlaw06_records.f k bt382.1 x6).bind fun t387 => (if t387 = true then (if bt382.2.1 = x7 then (if bt382.2.2 = x8 then (carillonlaw06_SegmentScans.l1 k x0 x1 x5 x6 x7 x8 x9 bt382.1 0) else (some false)) else (some false)) else (some false)))) else (some x5)
def carillonlaw06_SegmentScans.l1 : Nat → Int → ByteArray → Bool → List (S23) → Int → Int → Int → List (S23) → Int → Option (Bool)
 | 0, _, _, _, _, _, _, _, _, _ => none
 | k + 1, x0, x1, x5, x6, x7, x8, x9, x10, x14 => if x14 < (x10.length : Int) then (if 0 ≤ x14 then (carillonlaw06_SegmentScans.l1 k x0 x1 x5 x6 x7 x8 x9 (x10.set (x14 : Int).toNat (⟨0, (⟨#[]⟩ : ByteArray), 0, (⟨#[]⟩ : ByteArray), (⟨#[]⟩ : ByteArray)⟩ : S23)) (wrap64 (x14 + 1))) else (none)) else (carillonlaw06_SegmentScans.l0 k x0 x1 x5 x6 x7 x8 (wrap64 (x9 + 1)))
end
def carillonlaw06_SegmentScans.f (k : Nat) (a0 : Int) (a1 : ByteArray) : Option (Bool) := (carillonlaw06_examples.f).bind fun t376 => ((carillonref06_Scan.f k a0 a1).bind fun bt377 => (carillonlaw06_SegmentScans.l0 k a0 a1 t376 bt377.1 bt377.2.1 bt377.2.2 0))
theorem carillonlaw06_SegmentScans.mono_l : ∀ k, (∀ y0 y1 y2 y3 y4 y5 y6, LeO (carillonlaw06_SegmentScans.l0 k y0 y1 y2 y3 y4 y5 y6) (carillonlaw06_SegmentScans.l0 (k + 1) y0 y1 y2 y3 y4 y5 y6)) ∧ (∀ y0 y1 y2 y3 y4 y5 y6 y7 y8, LeO (carillonlaw06_SegmentScans.l1 k y0 y1 y2 y3 y4 y5 y6 y7 y8) (carillonlaw06_SegmentScans.l1 (k + 1) y0 y1 y2 y3 y4 y5 y6 y7 y8))
 | 0 => ⟨fun _ _ _ _ _ _ _ r h => by simp [carillonlaw06_SegmentScans.l0] at h, fun _ _ _ _ _ _ _ _ _ r h => by simp [carillonlaw06_SegmentScans.l1] at h⟩
 | k + 1 => by
  obtain ⟨ih0, ih1⟩ := carillonlaw06_SegmentScans.mono_l k
  refine ⟨?_, ?_⟩
  ·intro y0 y1 y2 y3 y4 y5 y6
   unfold carillonlaw06_SegmentScans.l0
   repeat' first
   | (with_reducible exact ih0 _ _ _ _ _ _ _)
   | (with_reducible exact ih1 _ _ _ _ _ _ _ _ _)
   | (with_reducible exact carillonlaw06_records.mono _ _ _)
   | (with_reducible exact carillonref06_Scan.mono _ _ _)
   | (with_reducible exact segment_Scan.mono _ _ _)
   | (with_reducible exact LeO.refl _)
   | (with_reducible exact LeO.none _)
   | (with_reducible refine LeO.ite ?_ ?_)
   | (with_reducible refine LeO.bind ?_ (fun _ => ?_))
   | exact ih0 _ _ _ _ _ _ _
   | exact ih1 _ _ _ _ _ _ _ _ _
   | exact carillonlaw06_records.mono _ _ _
   | exact carillonref06_Scan.mono _ _ _
   | exact segment_Scan.mono _ _ _
   | exact LeO.none _
   | refine LeO.ite ?_ ?_
   | refine LeO.bind ?_ (fun _ => ?_)
  ·intro y0 y1 y2 y3 y4 y5 y6 y7 y8
   unfold carillonlaw06_SegmentScans.l1
   repeat' first
   | (with_reducible exact ih0 _ _ _ _ _ _ _)
   | (with_reducible exact ih1 _ _ _ _ _ _ _ _ _)
   | (with_reducible exact carillonlaw06_records.mono _ _ _)
   | (with_reducible exact carillonref06_Scan.mono _ _ _)
   | (with_reducible exact segment_Scan.mono _ _ _)
   | (with_reducible exact LeO.refl _)
   | (with_reducible exact LeO.none _)
   | (with_reducible refine LeO.ite ?_ ?_)
   | (with_reducible refine LeO.bind ?_ (fun _ => ?_))
   | exact ih0 _ _ _ _ _ _ _
   | exact ih1 _ _ _ _ _ _ _ _ _
   | exact carillonlaw06_records.mono _ _ _
   | exact carillonref06_Scan.mono _ _ _
   | exact segment_Scan.mono _ _ _
   | exact LeO.none _
   | refine LeO.ite ?_ ?_
   | refine LeO.bind ?_ (fun _ => ?_)
theorem carillonlaw06_SegmentScans.mono : ∀ a0 a1 k, LeO (carillonlaw06_SegmentScans.f k a0 a1) (carillonlaw06_SegmentScans.f (k + 1) a0 a1) := by
 intro a0 a1 k
 obtain ⟨ih0, ih1⟩ := carillonlaw06_SegmentScans.mono_l k
 unfold carillonlaw06_SegmentScans.f
 repeat' first
   | (with_reducible exact ih0 _ _ _ _ _ _ _)
   | (with_reducible exact ih1 _ _ _ _ _ _ _ _ _)
   | (with_reducible exact carillonlaw06_records.mono _ _ _)
   | (with_reducible exact carillonref06_Scan.mono _ _ _)
   | (with_reducible exact segment_Scan.mono _ _ _)
   | (with_reducible exact LeO.refl _)
   | (with_reducible exact LeO.none _)
   | (with_reducible refine LeO.ite ?_ ?_)
   | (with_reducible refine LeO.bind ?_ (fun _ => ?_))
   | exact ih0 _ _ _ _ _ _ _
   | exact ih1 _ _ _ _ _ _ _ _ _
   | exact carillonlaw06_records.mono _ _ _
   | exact carillonref06_Scan.mono _ _ _
   | exact segment_Scan.mono _ _ _
   | exact LeO.none _
   | refine LeO.ite ?_ ?_
   | refine LeO.bind ?_ (fun _ => ?_)
set_option maxHeartbeats 8000000 in
set_option maxRecDepth 100000 in
theorem carillonlaw06_SegmentScans.calls (k : Nat) (a0 : Int) (a1 : ByteArray) (r : Bool) (w : World) (hr_ : Aside0 (r = true)) (HT_ : TabOk w) (h : carillonlaw06_SegmentScans.f k a0 a1 = some r) :
  Calls Tryd.prog 4 #[.int .i64 a0, .string a1] w fun e w' => e = .returned (.bool r) ∧ Below w.heap.size w w' := by
 have HT := Aside0.mk HT_
 clear HT_
 have hu23 := Tryd.underlying23
 have HB := Aside0.mk (Below.refl w.heap.size w)
 have H : ((carillonlaw06_examples.f).bind fun t376 => ((carillonref06_Scan.f k a0 a1).bind fun bt377 => (carillonlaw06_SegmentScans.l0 k a0 a1 t376 bt377.1 bt377.2.1 bt377.2.2 0))) = some r := h
 clear h
 replace H := Option.bind_eq_some_iff.mp H
 obtain ⟨t376, A30, H⟩ := H
 replace H : ((carillonref06_Scan.f k a0 a1).bind fun bt377 => (carillonlaw06_SegmentScans.l0 k a0 a1 t376 bt377.1 bt377.2.1 bt377.2.2 0)) = some r := H
 have A3 := Aside0.mk A30
 clear A30
 replace H := Option.bind_eq_some_iff.mp H
 obtain ⟨⟨t377, t378, t379⟩, A40, H⟩ := H
 replace H : (carillonlaw06_SegmentScans.l0 k a0 a1 t376 t377 t378 t379 0) = some r := H
 have A4 := Aside0.mk A40
 clear A40
 have H' := Aside0.mk H
 clear H
 go_enter Tryd.func4, Tryd.ntmps4
 go_wp2_with (first | ((with_reducible refine gate_callee (f := 9) rfl ?_); refine goesL_ (some 15) rfl rfl Tryd.func9 (by kernel_rfl) rfl #[] rfl am ?_; (with_reducible refine (carillonlaw06_examples.calls  t376 _ tbk A3.out).mono ?_); rintro e w5 ⟨rfl, hb⟩; refine ⟨_, rfl, ?_⟩; have n0_ := Aside0.mk (below_step bw hb); clear HB; have HB := n0_; clear n0_; (try clear hb); (try clear hb2); (try clear hk); (try clear hi)) | ((with_reducible refine gate_callee (f := 14) rfl ?_); refine goesL_ (some 19) rfl rfl Tryd.func14 (by kernel_rfl) rfl #[.int .i64 a0, .string a1] rfl am ?_; (with_reducible refine (carillonref06_Scan.calls k a0 a1 t377 t378 t379 _ A4.out).mono ?_); rintro e w6 ⟨v380, rfl, ho0, hb⟩; refine ⟨_, rfl, ?_⟩; have n0_ := Aside0.mk (Kd.R_lower ho0 (below_size bw)); have n1_ := Aside0.mk (below_step bw hb); clear HB; have HO381 := n0_; have HB := n1_; clear n0_ n1_; (try clear hb); (try clear hb2); (try clear hk); (try clear hi); (try clear ho0)))
 go_loopg [9] k (fun kq v9 w' => ∃ (x6_1 : List (S23)) (x9_1 : Int), v9 = .int .i64 x9_1 ∧ Aside0 (carillonlaw06_SegmentScans.l0 kq a0 a1 t376 x6_1 t378 t379 x9_1 = some r) ∧ Aside0 (kq ≤ k) ∧ Aside0 (Kd.R k23 23 w' w.heap.size (fun _ => True) v380 x6_1) ∧ Aside0 (Below w.heap.size w w'))
 case atStart => exact ⟨(t377), (0), (by first | rfl | (simp; done) | (simp [*]; done)), H', ⟨Nat.le_refl _⟩, ⟨by (with_reducible repeat (first | apply Kd.R_alloc | apply Kd.R_drewN | apply Kd.R_drew)); exact HO381.out⟩, ⟨bw⟩⟩
 case round =>
  clear H'
  try clear c1
  try clear p2
  try clear c4
  obtain ⟨x6_1, x9_1, rfl, HA, HK1, HO_6, HB⟩ := hrel
  cases gk with
  | zero => exact absurd HA.out (by simp [carillonlaw06_SegmentScans.l0])
  | succ k1 =>
   have H := HA.out
   clear HA
   simp only [carillonlaw06_SegmentScans.l0] at H
   by_cases c7 : x9_1 < 2
   ·rw [if_pos c7] at H
    have c7b0 : decide (x9_1 < 2) = true := decide_eq_true c7
    clear c7
    replace H := Option.bind_eq_some_iff.mp H
    obtain ⟨⟨t382, t383, t384⟩, A80, H⟩ := H
    replace H : ((carillonlaw06_records.f k1 t382 x6_1).bind fun t387 => (if t387 = true then (if t383 = t378 then (if t384 = t379 then (carillonlaw06_SegmentScans.l1 k1 a0 a1 t376 x6_1 t378 t379 x9_1 t382 0) else (some false)) else (some false)) else (some false))) = some r := H
    have A8 := Aside0.mk A80
    clear A80
    replace H := Option.bind_eq_some_iff.mp H
    obtain ⟨t387, A90, H⟩ := H
    replace H : (if t387 = true then (if t383 = t378 then (if t384 = t379 then (carillonlaw06_SegmentScans.l1 k1 a0 a1 t376 x6_1 t378 t379 x9_1 t382 0) else (some false)) else (some false)) else (some false)) = some r := H
    have A9 := Aside0.mk A90
    clear A90
    by_cases c10 : t387 = true
    ·subst c10
     have H1 : (if t383 = t378 then (if t384 = t379 then (carillonlaw06_SegmentScans.l1 k1 a0 a1 t376 x6_1 t378 t379 x9_1 t382 0) else (some false)) else (some false)) = some r := by rw [if_pos rfl] at H; exact H
     clear H
     have H := H1
     clear H1
     by_cases c11 : t383 = t378
     ·rw [if_pos c11] at H
      have c11b0 : (t383 == t378) = true := beq_iff_eq.mpr c11
      have c11b1 : (t383 != t378) = false := bne_eq_false_iff_eq.mpr c11
      clear c11
      by_cases c12 : t384 = t379
      ·rw [if_pos c12] at H
       have c12b0 : (t384 == t379) = true := beq_iff_eq.mpr c12
       have c12b1 : (t384 != t379) = false := bne_eq_false_iff_eq.mpr c12
       clear c12
       have H' := Aside0.mk H
       clear H
       go_wp2_with (first | ((with_reducible refine gate_callee (f := 15) rfl ?_); refine goesL_ (some 30) rfl rfl Tryd.func15 (by kernel_rfl) rfl #[.int .i64 a0, .string a1] rfl am ?_; (with_reducible refine (segment_Scan.calls k1 a0 a1 t382 t383 t384 _ tbk A8.out).mono ?_); rintro e w13 ⟨v385, rfl, ho0, hb⟩; refine ⟨_, rfl, ?_⟩; have n0_ := Aside0.mk (Kd.R_elder' (by (with_reducible repeat (first | apply Kd.R_alloc | apply Kd.R_drewN | apply Kd.R_drew)); exact HO_6.out) (Kd.R_base ho0) hb); have n1_ := Aside0.mk (Kd.R_lower (Kd.R_new' ho0 (Kd.R_lt (by (with_reducible repeat (first | apply Kd.R_alloc | apply Kd.R_drewN | apply Kd.R_drew)); exact HO_6.out))) (below_size bw)); have n2_ := Aside0.mk (below_step bw hb); clear HO_6; clear HB; have HO_6 := n0_; have HO386 := n1_; have HB := n2_; clear n0_ n1_ n2_; (try clear hb); (try clear hb2); (try clear hk); (try clear hi); (try clear ho0); obtain ⟨Ao14, co14, eo14⟩ := Kd.R_slice HO386.out; subst eo14; obtain ⟨Ao15, co15, eo15⟩ := Kd.R_slice HO_6.out; subst eo15) | ((with_reducible refine gate_callee (f := 16) rfl ?_); refine goesL_ (some 36) rfl rfl Tryd.func16 (by kernel_rfl) rfl #[.slice Ao14 t382.length co14, .slice Ao15 x6_1.length co15] rfl am ?_; (with_reducible refine (carillonlaw06_records.calls k1 _ _ t382 _ _ x6_1 true _ ?side1 ?side2 ?side3 ?side4 A9.out).mono ?_); (case side1 => repeat (first | exact (Kd.R_reads' HO386.out).2.2 | (with_reducible refine Kd.C_alloc ?_ _) | (with_reducible refine Kd.C_drewN ?_ _) | (with_reducible refine Kd.C_drew ?_))); (case side2 => exact (Kd.R_reads' HO386.out).2.1); (case side3 => repeat (first | exact (Kd.R_reads' HO_6.out).2.2 | (with_reducible refine Kd.C_alloc ?_ _) | (with_reducible refine Kd.C_drewN ?_ _) | (with_reducible refine Kd.C_drew ?_))); (case side4 => exact (Kd.R_reads' HO_6.out).2.1); rintro e w' ⟨rfl, ⟨nd, rfl⟩⟩; refine ⟨_, rfl, ?_⟩))
       go_loopg [14] k1 (fun kq v14 w' => ∃ (x10_2 : List (S23)) (x14_2 : Int), v14 = .int .i64 x14_2 ∧ Aside0 (carillonlaw06_SegmentScans.l1 kq a0 a1 t376 x6_1 t378 t379 x9_1 x10_2 x14_2 = some r) ∧ Aside0 (kq ≤ k1) ∧ Aside0 (Kd.R k23 23 w' w.heap.size (fun k_ => some k_ ≠ ((.slice Ao14 t382.length co14) : Value).ownBlock) (.slice Ao15 x6_1.length co15) x6_1) ∧ Aside0 (Kd.R k23 23 w' w.heap.size (fun k_ => some k_ ≠ ((.slice Ao15 x6_1.length co15) : Value).ownBlock) (.slice Ao14 t382.length co14) x10_2) ∧ Aside0 (Below w.heap.size w w'))
       case atStart => exact ⟨(t382), (0), (by first | rfl | (simp; done) | (simp [*]; done)), H', ⟨Nat.le_refl _⟩, ⟨by (with_reducible repeat (first | apply Kd.R_alloc | apply Kd.R_drewN | apply Kd.R_drew)); exact Kd.R_mono HO_6.out (fun _ hk => hk.2)⟩, ⟨by (with_reducible repeat (first | apply Kd.R_alloc | apply Kd.R_drewN | apply Kd.R_drew)); exact Kd.R_mono HO386.out (fun _ hk => hk.2)⟩, ⟨bw⟩⟩
       case round =>
        clear H'
        try clear c1
        try clear p2
        try clear c4
        try clear c7
        try clear c7b0
        try clear c9
        try clear c10
        try clear c11
        try clear c11b0
        try clear c11b1
        try clear c12
        try clear c12b0
        try clear c12b1
        try clear c14
        try clear c15
        try clear p2
        obtain ⟨x10_2, x14_2, rfl, HA, HK2, HO_6, HO_10, HB⟩ := hrel
        have hl10_2 := (Kd.R_reads' HO_10.out).1
        rw [hl10_2] at HO_10
        (try simp only [hl10_2])
        (try simp only [hl10_2] at HO_6)
        cases gk with
        | zero => exact absurd HA.out (by simp [carillonlaw06_SegmentScans.l1])
        | succ k2 =>
         have H := HA.out
         clear HA
         simp only [carillonlaw06_SegmentScans.l1] at H
         by_cases c16 : x14_2 < (x10_2.length : Int)
         ·rw [if_pos c16] at H
          have c16b0 : decide (x14_2 < (x10_2.length : Int)) = true := decide_eq_true c16
          clear c16
          by_cases c17 : 0 ≤ x14_2
          ·rw [if_pos c17] at H
           have c17b0 : decide (0 ≤ x14_2) = true := decide_eq_true c17
           clear c17
           obtain ⟨y388, hy388⟩ : ∃ y_ : List (S23), y_ = (x10_2.set (x14_2 : Int).toNat (⟨0, (⟨#[]⟩ : ByteArray), 0, (⟨#[]⟩ : ByteArray), (⟨#[]⟩ : ByteArray)⟩ : S23)) := ⟨_, rfl⟩
           replace H : (carillonlaw06_SegmentScans.l1 k2 a0 a1 t376 x6_1 t378 t379 x9_1 y388 (wrap64 (x14_2 + 1))) = some r := by first | (rw [hy388]; with_reducible exact H) | (have H2_ := (Option.bind_some _ _).symm.trans H; rw [hy388]; with_reducible exact H2_) | (have H2_ := (Option.bind_some _ _).symm.trans H; with_reducible exact H2_) | with_reducible exact H | (rw [hy388]; exact H) | exact H
           have Ny388 := Aside0.mk hy388
           clear hy388
           have H' := Aside0.mk H
           clear H
           have p18 : 0 ≤ (x14_2 : Int) := of_decide_eq_true (by first | (with_reducible assumption) | assumption)
           have q18 : (x14_2 : Int) < ((x10_2.length : Int) : Int) := of_decide_eq_true (by first | (with_reducible assumption) | assumption)
           obtain ⟨go18, co18, eo18, gb18, gl18, cl18, HG18⟩ := Kd.R_form HO_10.out (by omega)
           (first | cases eo18 | (injection eo18 with ea_ en_ ec_; (first | subst ea_ | (injection ea_ with ea_; subst ea_)); subst ec_; clear en_))
           have GB18 := Aside0.mk gb18
           have GG18 := Aside0.mk HG18
           clear gb18 gl18 HG18
           obtain ⟨ce18, hcl18, hM18, hcc18, hfr18⟩ := Kd.R_elem HO_10.out z23 (x14_2 : Int) p18 q18
           obtain rfl := k23_openM hM18
           have hx18_0 : wr.cell? ⟨go18, (x14_2 : Int).toNat * 5, none⟩ = some (.int .i64 ((rd_T23 x10_2 x14_2).f0)) := hcc18 0 _ rfl
           have hx18_1 : wr.cell? ⟨go18, (x14_2 : Int).toNat * 5 + 1, none⟩ = some (.string ((rd_T23 x10_2 x14_2).f1)) := hcc18 1 _ rfl
           have hx18_2 : wr.cell? ⟨go18, (x14_2 : Int).toNat * 5 + 2, none⟩ = some (.int .i64 ((rd_T23 x10_2 x14_2).f2)) := hcc18 2 _ rfl
           have hx18_3 : wr.cell? ⟨go18, (x14_2 : Int).toNat * 5 + 3, none⟩ = some (.string ((rd_T23 x10_2 x14_2).f3)) := hcc18 3 _ rfl
           have hx18_4 : wr.cell? ⟨go18, (x14_2 : Int).toNat * 5 + 4, none⟩ = some (.string ((rd_T23 x10_2 x14_2).f4)) := hcc18 4 _ rfl
           have hf18_0 : wr.frozen? ⟨go18, (x14_2 : Int).toNat * 5, none⟩ = false := hfr18 0
           have hf18_1 : wr.frozen? ⟨go18, (x14_2 : Int).toNat * 5 + 1, none⟩ = false := hfr18 1
           have hf18_2 : wr.frozen? ⟨go18, (x14_2 : Int).toNat * 5 + 2, none⟩ = false := hfr18 2
           have hf18_3 : wr.frozen? ⟨go18, (x14_2 : Int).toNat * 5 + 3, none⟩ = false := hfr18 3
           have hf18_4 : wr.frozen? ⟨go18, (x14_2 : Int).toNat * 5 + 4, none⟩ = false := hfr18 4
           clear hcl18 hcc18 hfr18 hM18
           replace p18 := eq_true p18
           replace q18 := eq_true q18
           have HX19 := Aside0.mk (show Kd.R k23 23 wr w.heap.size (fun k_ => some k_ ≠ (.slice Ao15 x6_1.length co15 : Value).ownBlock) (.slice (some ⟨go18, 0, none⟩) x10_2.length co14) x10_2 from (by (with_reducible repeat (first | apply Kd.R_alloc | apply Kd.R_drewN | apply Kd.R_drew)); exact HO_10.out))
           obtain ⟨ce19, hcl19, hM19, hcc19, hfr19⟩ := Kd.R_elem HX19.out z23 (x14_2 : Int) (of_decide_eq_true (by first | (with_reducible assumption) | assumption)) (by have h_ : (x14_2 : Int) < ((x10_2.length : Int) : Int) := of_decide_eq_true (by first | (with_reducible assumption) | assumption); first | exact h_ | (have e_ := (Kd.R_reads' HO_10.out).1; omega) | simpa using h_)
           obtain rfl := k23_openM hM19
           have HP19 := Kd.R_seg HX19.out (x14_2 : Int) (of_decide_eq_true (by first | (with_reducible assumption) | assumption)) (by have h_ : (x14_2 : Int) < ((x10_2.length : Int) : Int) := of_decide_eq_true (by first | (with_reducible assumption) | assumption); first | exact h_ | (have e_ := (Kd.R_reads' HO_10.out).1; omega) | simpa using h_) (seg := [.int .i64 0, .string (⟨#[]⟩ : ByteArray), .int .i64 0, .string (⟨#[]⟩ : ByteArray), .string (⟨#[]⟩ : ByteArray)]) (j := 0) hcl19 hcc19 (show 5 ≤ 5 from by decide) (x' := (⟨0, (⟨#[]⟩ : ByteArray), 0, (⟨#[]⟩ : ByteArray), (⟨#[]⟩ : ByteArray)⟩ : S23)) (k23_mkM _ _ _ (⟨0, (⟨#[]⟩ : ByteArray), 0, (⟨#[]⟩ : ByteArray), (⟨#[]⟩ : ByteArray)⟩ : S23) ) (fun _ hk => hk)
           have hx19_0 := hcc19 0 _ rfl
           (try simp only [show (k23).sz = 5 from rfl, Nat.mul_one, Nat.add_zero] at hx19_0)
           have hf19_0 := hfr19 0
           (try simp only [show (k23).sz = 5 from rfl, Nat.mul_one, Nat.add_zero] at hf19_0)
           have hx19_1 := hcc19 1 _ rfl
           (try simp only [show (k23).sz = 5 from rfl, Nat.mul_one, Nat.add_zero] at hx19_1)
           have hf19_1 := hfr19 1
           (try simp only [show (k23).sz = 5 from rfl, Nat.mul_one, Nat.add_zero] at hf19_1)
           have hx19_2 := hcc19 2 _ rfl
           (try simp only [show (k23).sz = 5 from rfl, Nat.mul_one, Nat.add_zero] at hx19_2)
           have hf19_2 := hfr19 2
           (try simp only [show (k23).sz = 5 from rfl, Nat.mul_one, Nat.add_zero] at hf19_2)
           have hx19_3 := hcc19 3 _ rfl
           (try simp only [show (k23).sz = 5 from rfl, Nat.mul_one, Nat.add_zero] at hx19_3)
           have hf19_3 := hfr19 3
           (try simp only [show (k23).sz = 5 from rfl, Nat.mul_one, Nat.add_zero] at hf19_3)
           have hx19_4 := hcc19 4 _ rfl
           (try simp only [show (k23).sz = 5 from rfl, Nat.mul_one, Nat.add_zero] at hx19_4)
           have hf19_4 := hfr19 4
           (try simp only [show (k23).sz = 5 from rfl, Nat.mul_one, Nat.add_zero] at hf19_4)
           clear hcl19 hcc19 hfr19 hM19
           go_wp2_with (first | ((with_reducible refine gate_store (t := 23) (p := 58) rfl ?_); refine store_event (t := 23) (p := 58) (v := ?vo_w20) (w1 := (((((wr.setCell ⟨go18, (x14_2 : Int).toNat * 5, none⟩ (.int .i64 0)).setCell ⟨go18, (x14_2 : Int).toNat * 5 + 1, none⟩ (.string (⟨#[]⟩ : ByteArray))).setCell ⟨go18, (x14_2 : Int).toNat * 5 + 2, none⟩ (.int .i64 0)).setCell ⟨go18, (x14_2 : Int).toNat * 5 + 3, none⟩ (.string (⟨#[]⟩ : ByteArray))).setCell ⟨go18, (x14_2 : Int).toNat * 5 + 4, none⟩ (.string (⟨#[]⟩ : ByteArray)))) ?hg ?ho ?hn ?hr ?_; (case ho => rfl); (case hg => rfl); (case hn => rfl); (case hr => first | (go_simp; done) | (go_simp; rfl)); intro w20 hw; have hg : wr.grownBy w20 (some go18) := (by rw [hw]; exact HP19.2); have hp_ : Kd.R k23 23 w20 w.heap.size (fun k_ => some k_ ≠ (.slice Ao15 x6_1.length co15 : Value).ownBlock) (.slice (some ⟨go18, 0, none⟩) x10_2.length co14) y388 := (by rw [hw, Ny388.out]; exact HP19.1); clear HP19; have n0_ := Aside0.mk (Kd.R_after (v := (.slice (some ⟨go18, 0, none⟩) x10_2.length co14)) (v1 := (.slice (some ⟨go18, 0, none⟩) x10_2.length co14)) (ok := (fun _ => True)) (by (with_reducible repeat (first | apply Kd.R_alloc | apply Kd.R_drewN | apply Kd.R_drew)); exact Kd.R_mono HO_6.out (fun _ hk => ⟨trivial, hk⟩)) hg (.inl rfl)); have n1_ := Aside0.mk (hp_); have n2_ := Aside0.mk ((by rw [hw]; exact below_set (below_set (below_set (below_set (below_set (HB.out) GB18.out) GB18.out) GB18.out) GB18.out) GB18.out : Below w.heap.size w w20)); clear HO_6; clear HO_10; clear HB; have HO_6 := n0_; have HO_10 := n1_; have HB := n2_; clear n0_ n1_ n2_; clear hg hw hp_))
           (try simp only [← hl10_2])
           go_roundg k2
           case measure => have := HK1.out; have := HK2.out; omega
           case rel => exact ⟨(y388), (wrap64 (x14_2 + 1)), (by first | rfl | (simp; done) | (simp [*]; done)), H', ⟨by have := HK1.out; have := HK2.out; omega⟩, ⟨by (try simp only [hl10_2]); (with_reducible repeat (first | apply Kd.R_alloc | apply Kd.R_drewN | apply Kd.R_drew)); exact Kd.R_mono HO_6.out (fun _ hk => hk.2)⟩, ⟨by (try simp only [hl10_2]); (with_reducible repeat (first | apply Kd.R_alloc | apply Kd.R_drewN | apply Kd.R_drew)); exact HO_10.out⟩, ⟨bw⟩⟩
          ·rw [if_neg c17] at H
           exact absurd H (by simp)
         ·rw [if_neg c16] at H
          have c16b0 : decide (x14_2 < (x10_2.length : Int)) = false := decide_eq_false c16
          clear c16
          have H' := Aside0.mk H
          clear H
          go_wp2
          (try simp only [← hl10_2])
          go_roundg k2
          case measure => have := HK1.out; have := HK2.out; omega
          case rel => exact ⟨(x6_1), (wrap64 (x9_1 + 1)), (by first | rfl | (simp; done) | (simp [*]; done)), H', ⟨by have := HK1.out; have := HK2.out; omega⟩, ⟨by (try simp only [hl10_2]); (with_reducible repeat (first | apply Kd.R_alloc | apply Kd.R_drewN | apply Kd.R_drew)); exact Kd.R_mono HO_6.out (fun _ hk => trivial)⟩, ⟨bw⟩⟩
      ·rw [if_neg c12] at H
       have c12b0 : (t384 == t379) = false := beq_eq_false_iff_ne.mpr c12
       have c12b1 : (t384 != t379) = true := bne_iff_ne.mpr c12
       exact absurd ((Option.some.inj H).trans hr_.out) (by decide)
     ·rw [if_neg c11] at H
      have c11b0 : (t383 == t378) = false := beq_eq_false_iff_ne.mpr c11
      have c11b1 : (t383 != t378) = true := bne_iff_ne.mpr c11
      exact absurd ((Option.some.inj H).trans hr_.out) (by decide)
    ·replace c10 := Bool.eq_false_iff.mpr c10
     subst c10
     have H1 : (some false) = some r := by rw [if_neg (show ¬ (false = true) by decide)] at H; exact H
     clear H
     have H := H1
     clear H1
     exact absurd ((Option.some.inj H).trans hr_.out) (by decide)
   ·rw [if_neg c7] at H
    have c7b0 : decide (x9_1 < 2) = false := decide_eq_false c7
    clear c7
    obtain rfl := Option.some.inj H
    go_wp2
    go_ret
    exact ⟨er, bw⟩

end Go.Proofs.YtmjgifhgodgghaaDoor.P
