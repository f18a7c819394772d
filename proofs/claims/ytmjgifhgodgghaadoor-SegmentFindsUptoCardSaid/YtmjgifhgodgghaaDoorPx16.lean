-- Printed by this session's program wip/xp.py (a turned copy of the kit's printer): functions, their contracts.
import Derived.Test.YtmjgifhgodgghaaDoorPx0
import Derived.Test.YtmjgifhgodgghaaDoorPx1
import Derived.Test.YtmjgifhgodgghaaDoorPx12
import Derived.Test.YtmjgifhgodgghaaDoorPx15
namespace Go.Proofs.YtmjgifhgodgghaaDoor.P
open Go.RowKit Go.Proofs.YtmjgifhgodgghaaDoorW.PrintWords Go.Proofs.YtmjgifhgodgghaaDoorW.PrintLast Go.Proofs.YtmjgifhgodgghaaDoorW.PrintMore
attribute [local go_sem] max2_int min2_int max_two min_two max_three min_three max_four min_four   -- for this text's walks alone
set_option linter.unusedVariables false
set_option linter.unusedSimpArgs false

attribute [local go_sem high] eqA23
/-! ### carillonref06_scan: function 29 -/
mutual
def carillonref06_scan.l0 : Nat → Int → ByteArray → List (S23) → List Int → Int → Option ((List (S23)) × List Int × Int × Int)
 | 0, _, _, _, _, _ => none
 | k + 1, x0, x1, x8, x9, x10 => if x10 < (x1.size : Int) then (if 0 ≤ x10 then (if x10 ≤ (x1.size : Int) then ((carillonref02_Take.f k (x1.extract (x10 : Int).toNat x1.size)).bind fun bt349 => (if bt349.2.2 = 0 then ((carillonref06_read.f k bt349.1).bind fun bt352 => (if bt352.2.2.2.2.2 = true then (if bt352.1 < x0 then (carillonref06_scan.j1 k x0 x1 x8 x9 x10 bt349.2.1 true bt352.1 bt352.2.1 bt352.2.2.1 bt352.2.2.2.1 bt352.2.2.2.2.1) else (if (x8.length : Int) > 0 then (if 0 ≤ (wrap64 ((x8.length : Int) - 1)) then (if (wrap64 ((x8.length : Int) - 1)) < (x8.length : Int) then (carillonref06_scan.j1 k x0 x1 x8 x9 x10 bt349.2.1 (decide (bt352.1 ≤ ((rd_T23 x8 (wrap64 ((x8.length : Int) - 1))).f0))) bt352.1 bt352.2.1 bt352.2.2.1 bt352.2.2.2.1 bt352.2.2.2.2.1) else (none)) else (none)) else (carillonref06_scan.j1 k x0 x1 x8 x9 x10 bt349.2.1 false bt352.1 bt352.2.1 bt352.2.2.1 bt352.2.2.2.1 bt352.2.2.2.2.1))) else (some (x8, x9, x10, 10)))) else (some (x8, x9, x10, bt349.2.2)))) else (none)) else (none)) else (some (x8, x9, x10, 0))
def carillonref06_scan.j1 : Nat → Int → ByteArray → List (S23) → List Int → Int → Int → Bool → Int → ByteArray → Int → ByteArray → ByteArray → Option ((List (S23)) × List Int × Int × Int)
 | 0, _, _, _, _, _, _, _, _, _, _, _, _ => none
 | k + 1, x0, x1, x8, x9, x10, x12, x64, x359000, x359001, x359002, x359003, x359004 => if x64 = true then (some (x8, x9, x10, 11)) else (if x8.length < 2199023255552 then (if x9.length < 17592186044416 then (carillonref06_scan.l0 k x0 x1 (x8 ++ [(⟨x359000, x359001, x359002, x359003, x359004⟩ : S23)]) (x9 ++ [x10]) (wrap64 (x10 + x12))) else (none)) else (none))
end
def carillonref06_scan.f (k : Nat) (a0 : Int) (a1 : ByteArray) : Option ((List (S23)) × List Int × Int × Int) := carillonref06_scan.l0 k a0 a1 ([] : List (S23)) ([] : List Int) 0
theorem carillonref06_scan.mono_l : ∀ k, (∀ y0 y1 y2 y3 y4, LeO (carillonref06_scan.l0 k y0 y1 y2 y3 y4) (carillonref06_scan.l0 (k + 1) y0 y1 y2 y3 y4)) ∧ (∀ y0 y1 y2 y3 y4 y5 y6 y7 y8 y9 y10 y11, LeO (carillonref06_scan.j1 k y0 y1 y2 y3 y4 y5 y6 y7 y8 y9 y10 y11) (carillonref06_scan.j1 (k + 1) y0 y1 y2 y3 y4 y5 y6 y7 y8 y9 y10 y11))
 | 0 => ⟨fun _ _ _ _ _ r h => by simp [carillonref06_scan.l0] at h, fun _ _ _ _ _ _ _ _ _ _ _ _ r h => by simp [carillonref06_scan.j1] at h⟩
 | k + 1 => by
  obtain ⟨ih0, ih1⟩ := carillonref06_scan.mono_l k
  refine ⟨?_, ?_⟩
  ·intro y0 y1 y2 y3 y4
   unfold carillonref06_scan.l0
   repeat' first
   | (with_reducible exact ih0 _ _ _ _ _)
   | (with_reducible exact ih1 _ _ _ _ _ _ _ _ _ _ _ _)
   | (with_reducible exact carillonref02_Take.mono _ _)
   | (with_reducible exact carillonref06_read.mono _ _)
   | (with_reducible exact LeO.refl _)
   | (with_reducible exact LeO.none _)
   | (with_reducible refine LeO.ite ?_ ?_)
   | (with_reducible refine LeO.bind ?_ (fun _ => ?_))
   | exact ih0 _ _ _ _ _
   | exact ih1 _ _ _ _ _ _ _ _ _ _ _ _
   | exact carillonref02_Take.mono _ _
   | exact carillonref06_read.mono _ _
   | exact LeO.none _
   | refine LeO.ite ?_ ?_
   | refine LeO.bind ?_ (fun _ => ?_)
  ·intro y0 y1 y2 y3 y4 y5 y6 y7 y8 y9 y10 y11
   unfold carillonref06_scan.j1
   repeat' first
   | (with_reducible exact ih0 _ _ _ _ _)
   | (with_reducible exact ih1 _ _ _ _ _ _ _ _ _ _ _ _)
   | (with_reducible exact carillonref02_Take.mono _ _)
   | (with_reducible exact carillonref06_read.mono _ _)
   | (with_reducible exact LeO.refl _)
   | (with_reducible exact LeO.none _)
   | (with_reducible refine LeO.ite ?_ ?_)
   | (with_reducible refine LeO.bind ?_ (fun _ => ?_))
   | exact ih0 _ _ _ _ _
   | exact ih1 _ _ _ _ _ _ _ _ _ _ _ _
   | exact carillonref02_Take.mono _ _
   | exact carillonref06_read.mono _ _
   | exact LeO.none _
   | refine LeO.ite ?_ ?_
   | refine LeO.bind ?_ (fun _ => ?_)
theorem carillonref06_scan.mono : ∀ a0 a1 k, LeO (carillonref06_scan.f k a0 a1) (carillonref06_scan.f (k + 1) a0 a1) := by
 intro a0 a1 k
 obtain ⟨ih0, ih1⟩ := carillonref06_scan.mono_l k
 unfold carillonref06_scan.f
 repeat' first
   | (with_reducible exact ih0 _ _ _ _ _)
   | (with_reducible exact ih1 _ _ _ _ _ _ _ _ _ _ _ _)
   | (with_reducible exact carillonref02_Take.mono _ _)
   | (with_reducible exact carillonref06_read.mono _ _)
   | (with_reducible exact LeO.refl _)
   | (with_reducible exact LeO.none _)
   | (with_reducible refine LeO.ite ?_ ?_)
   | (with_reducible refine LeO.bind ?_ (fun _ => ?_))
   | exact ih0 _ _ _ _ _
   | exact ih1 _ _ _ _ _ _ _ _ _ _ _ _
   | exact carillonref02_Take.mono _ _
   | exact carillonref06_read.mono _ _
   | exact LeO.none _
   | refine LeO.ite ?_ ?_
   | refine LeO.bind ?_ (fun _ => ?_)
set_option maxHeartbeats 8000000 in
set_option maxRecDepth 100000 in
theorem carillonref06_scan.calls (k : Nat) (a0 : Int) (a1 : ByteArray) (r1 : List (S23)) (r2 : List Int) (r3 : Int) (r4 : Int) (w : World) (h : carillonref06_scan.f k a0 a1 = some (r1, r2, r3, r4)) :
  Calls Tryd.prog 29 #[.int .i64 a0, .string a1] w fun e w' => ∃ v0_ v1_ : Value, e = .returned (.tuple #[v0_, v1_, .int .i64 r3, .int .i64 r4]) ∧ Kd.R k23 23 w' w.heap.size (fun _ => True) v0_ r1 ∧ Kd.R (Kd.int .i64) 3 w' w.heap.size (fun _ => True) v1_ r2 ∧ Below w.heap.size w w' := by
 have hu23 := Tryd.underlying23
 have HB := Aside0.mk (Below.refl w.heap.size w)
 have H : (carillonref06_scan.l0 k a0 a1 ([] : List (S23)) ([] : List Int) 0) = some (r1, r2, r3, r4) := h
 clear h
 have H' := Aside0.mk H
 clear H
 go_enter Tryd.func29, Tryd.ntmps29
 go_wp2
 go_loopg [8, 9, 10] k (fun kq v8 v9 v10 w' => ∃ (x8_1 : List (S23)) (x9_1 : List Int) (x10_1 : Int), v10 = .int .i64 x10_1 ∧ Aside0 (carillonref06_scan.l0 kq a0 a1 x8_1 x9_1 x10_1 = some (r1, r2, r3, r4)) ∧ Aside0 (kq ≤ k) ∧ Aside0 (Kd.R k23 23 w' w.heap.size (fun _ => True) v8 x8_1) ∧ Aside0 (Kd.R (Kd.int .i64) 3 w' w.heap.size (fun _ => True) v9 x9_1) ∧ Aside0 (Below w.heap.size w w'))
 case atStart => exact ⟨(([] : List (S23))), (([] : List Int)), (0), (by first | rfl | (simp; done) | (simp [*]; done)), H', ⟨Nat.le_refl _⟩, ⟨by first | exact Kd.R_nil _ _ _ _ _ | exact Kd.N_nil _ _ _ _ _ | exact Kd.V_nil _ _ _ _ _ | exact Kd.Q_nil _ _ _ _ _ | exact Kd.S_nil _ _ _ _ _⟩, ⟨by first | exact Kd.R_nil _ _ _ _ _ | exact Kd.N_nil _ _ _ _ _ | exact Kd.V_nil _ _ _ _ _ | exact Kd.Q_nil _ _ _ _ _ | exact Kd.S_nil _ _ _ _ _⟩, ⟨bw⟩⟩
 case round =>
  clear H'
  try clear c2
  try clear p2
  obtain ⟨x8_1, x9_1, x10_1, rfl, HA, HK1, HO_8, HO_9, HB⟩ := hrel
  cases gk with
  | zero => exact absurd HA.out (by simp [carillonref06_scan.l0])
  | succ k1 =>
   have H := HA.out
   clear HA
   simp only [carillonref06_scan.l0] at H
   by_cases c3 : x10_1 < (a1.size : Int)
   ·rw [if_pos c3] at H
    have c3b0 : decide (x10_1 < (a1.size : Int)) = true := decide_eq_true c3
    clear c3
    by_cases c4 : 0 ≤ x10_1
    ·rw [if_pos c4] at H
     have c4b0 := eq_true c4
     have c4b1 : decide (0 ≤ x10_1) = true := decide_eq_true c4
     clear c4
     by_cases c5 : x10_1 ≤ (a1.size : Int)
     ·rw [if_pos c5] at H
      have c5b0 := eq_true c5
      have c5b1 : decide (x10_1 ≤ (a1.size : Int)) = true := decide_eq_true c5
      clear c5
      replace H := Option.bind_eq_some_iff.mp H
      obtain ⟨⟨t349, t350, t351⟩, A60, H⟩ := H
      replace H : (if t351 = 0 then ((carillonref06_read.f k1 t349).bind fun bt352 => (if bt352.2.2.2.2.2 = true then (if bt352.1 < a0 then (carillonref06_scan.j1 k1 a0 a1 x8_1 x9_1 x10_1 t350 true bt352.1 bt352.2.1 bt352.2.2.1 bt352.2.2.2.1 bt352.2.2.2.2.1) else (if (x8_1.length : Int) > 0 then (if 0 ≤ (wrap64 ((x8_1.length : Int) - 1)) then (if (wrap64 ((x8_1.length : Int) - 1)) < (x8_1.length : Int) then (carillonref06_scan.j1 k1 a0 a1 x8_1 x9_1 x10_1 t350 (decide (bt352.1 ≤ ((rd_T23 x8_1 (wrap64 ((x8_1.length : Int) - 1))).f0))) bt352.1 bt352.2.1 bt352.2.2.1 bt352.2.2.2.1 bt352.2.2.2.2.1) else (none)) else (none)) else (carillonref06_scan.j1 k1 a0 a1 x8_1 x9_1 x10_1 t350 false bt352.1 bt352.2.1 bt352.2.2.1 bt352.2.2.2.1 bt352.2.2.2.2.1))) else (some (x8_1, x9_1, x10_1, 10)))) else (some (x8_1, x9_1, x10_1, t351))) = some (r1, r2, r3, r4) := H
      have A6 := Aside0.mk A60
      clear A60
      by_cases c7 : t351 = 0
      ·rw [if_pos c7] at H
       have c7b0 : (t351 == 0) = true := beq_iff_eq.mpr c7
       have c7b1 : (t351 != 0) = false := bne_eq_false_iff_eq.mpr c7
       clear c7
       replace H := Option.bind_eq_some_iff.mp H
       obtain ⟨⟨t352, t353, t354, t355, t356, t357⟩, A80, H⟩ := H
       replace H : (if t357 = true then (if t352 < a0 then (carillonref06_scan.j1 k1 a0 a1 x8_1 x9_1 x10_1 t350 true t352 t353 t354 t355 t356) else (if (x8_1.length : Int) > 0 then (if 0 ≤ (wrap64 ((x8_1.length : Int) - 1)) then (if (wrap64 ((x8_1.length : Int) - 1)) < (x8_1.length : Int) then (carillonref06_scan.j1 k1 a0 a1 x8_1 x9_1 x10_1 t350 (decide (t352 ≤ ((rd_T23 x8_1 (wrap64 ((x8_1.length : Int) - 1))).f0))) t352 t353 t354 t355 t356) else (none)) else (none)) else (carillonref06_scan.j1 k1 a0 a1 x8_1 x9_1 x10_1 t350 false t352 t353 t354 t355 t356))) else (some (x8_1, x9_1, x10_1, 10))) = some (r1, r2, r3, r4) := H
       have A8 := Aside0.mk A80
       clear A80
       by_cases c9 : t357 = true
       ·subst c9
        have H1 : (if t352 < a0 then (carillonref06_scan.j1 k1 a0 a1 x8_1 x9_1 x10_1 t350 true t352 t353 t354 t355 t356) else (if (x8_1.length : Int) > 0 then (if 0 ≤ (wrap64 ((x8_1.length : Int) - 1)) then (if (wrap64 ((x8_1.length : Int) - 1)) < (x8_1.length : Int) then (carillonref06_scan.j1 k1 a0 a1 x8_1 x9_1 x10_1 t350 (decide (t352 ≤ ((rd_T23 x8_1 (wrap64 ((x8_1.length : Int) - 1))).f0))) t352 t353 t354 t355 t356) else (none)) else (none)) else (carillonref06_scan.j1 k1 a0 a1 x8_1 x9_1 x10_1 t350 false t352 t353 t354 t355 t356))) = some (r1, r2, r3, r4) := by rw [if_pos rfl] at H; exact H
        clear H
        have H := H1
        clear H1
        have HC10 := Aside0.mk H
        clear H
        go_upto_region 11 with (first | (go_at_call 40; (with_reducible refine (carillonref02_Take.calls k1 (a1.extract (x10_1 : Int).toNat a1.size) t349 t350 t351 _ A6.out).mono ?_); rintro e w' ⟨rfl, ⟨nd, rfl⟩⟩; (try first | exact ⟨rfl, _, World.drewN_drewN _ _ _⟩ | exact ⟨rfl, _, Eq.trans (World.drewN_drewN _ _ _) (congrArg (World.drewN _) (Nat.add_assoc _ _ _))⟩)) | (go_at_call 41; (with_reducible refine (carillonref06_read.calls k1 t349 t352 t353 t354 t355 t356 true _ A8.out).mono ?_); rintro e w11 ⟨rfl, hb⟩; have n0_ := Aside0.mk (Kd.R_below (by (with_reducible repeat (first | apply Kd.R_alloc | apply Kd.R_drewN | apply Kd.R_drew)); exact HO_8.out) hb); have n1_ := Aside0.mk (Kd.R_below (by (with_reducible repeat (first | apply Kd.R_alloc | apply Kd.R_drewN | apply Kd.R_drew)); exact HO_9.out) hb); have n2_ := Aside0.mk (below_step bw hb); clear HO_8; clear HO_9; clear HB; have HO_8 := n0_; have HO_9 := n1_; have HB := n2_; clear n0_ n1_ n2_; (try clear hb); (try clear hb2); (try clear hk); (try clear hi)) | ((with_reducible refine gate_dst (N := 14) rfl ?_); (try (refine gate_guard (by rfl) ?_; dsimp only)); refine box_event ?hg (N := 14) ?hd (cs := #[.int .i64 0, .string (⟨#[]⟩ : ByteArray), .int .i64 0, .string (⟨#[]⟩ : ByteArray), .string (⟨#[]⟩ : ByteArray)]) (t := 23) ?hr ?_; (case hd => rfl); (case hg => rfl); (case hr => first | (go_simp; done) | (go_simp; rfl)); intro gb358 hg w12 hbox hb; have n0_ := Aside0.mk (Kd.R_below (Kd.R_elderB (by (with_reducible repeat (first | apply Kd.R_alloc | apply Kd.R_drewN | apply Kd.R_drew)); exact HO_8.out) gb358 (Nat.le_of_eq hg.symm)) hb); have n1_ := Aside0.mk (Kd.R_below (by (with_reducible repeat (first | apply Kd.R_alloc | apply Kd.R_drewN | apply Kd.R_drew)); exact HO_9.out) hb); have n2_ := Aside0.mk (below_step bw hb); have n3_ := Aside0.mk (hbox); have n4_ := Aside0.mk ((g1 hg bw : w.heap.size ≤ gb358)); have n5_ := Aside0.mk ((g1 hg bw : w.heap.size ≤ gb358)); clear HO_8; clear HO_9; clear HB; have HO_8 := n0_; have HO_9 := n1_; have HB := n2_; have BK358 := n3_; have GW358 := n4_; have GE358 := n5_; clear n0_ n1_ n2_ n3_ n4_ n5_; clear hb hbox hg; have hcz13_0 := bc5_0 BK358.out; have hcz13_1 := bc5_1 BK358.out; have hcz13_2 := bc5_2 BK358.out; have hcz13_3 := bc5_3 BK358.out; have hcz13_4 := bc5_4 BK358.out; have hfz13_0 := blk_frozen BK358.out 0; have hfz13_1 := blk_frozen BK358.out 1; have hfz13_2 := blk_frozen BK358.out 2; have hfz13_3 := blk_frozen BK358.out 3; have hfz13_4 := blk_frozen BK358.out 4))
        (try simp only [Act.put, sl1, sl2, sl3])
        go_cut [64] (fun v64 wc => ∃ (kq : Nat) (x64_9 : Bool), v64 = .bool x64_9 ∧ Aside0 (carillonref06_scan.j1 kq a0 a1 x8_1 x9_1 x10_1 t350 x64_9 t352 t353 t354 t355 t356 = some (r1, r2, r3, r4)) ∧ Aside0 (kq ≤ k1) ∧ Aside0 (Kd.R k23 23 wc w.heap.size (fun k_ => k_ ≠ gb358) u8 x8_1) ∧ Aside0 (Kd.R (Kd.int .i64) 3 wc w.heap.size (fun _ => True) u9 x9_1) ∧ Aside0 (wc.heap[gb358]? = some (.cells #[.int .i64 t352, .string t353, .int .i64 t354, .string t355, .string t356] 23 (0, 0))) ∧ Aside0 (Below w.heap.size w wc))
        case first =>
         have H := HC10.out
         clear HC10
         by_cases c14 : t352 < a0
         ·rw [if_pos c14] at H
          have c14b0 : decide (t352 < a0) = true := decide_eq_true c14
          clear c14
          (first | rw [c14b0] | (simp only [i64_w, i32_w]; rw [c14b0]) | skip)
          have H' := Aside0.mk H
          clear H
          have hcz15_0 := bc5_0 BK358.out
          have hcz15_1 := bc5_1 BK358.out
          have hcz15_2 := bc5_2 BK358.out
          have hcz15_3 := bc5_3 BK358.out
          have hcz15_4 := bc5_4 BK358.out
          have hfz15_0 := blk_frozen BK358.out 0
          have hfz15_1 := blk_frozen BK358.out 1
          have hfz15_2 := blk_frozen BK358.out 2
          have hfz15_3 := blk_frozen BK358.out 3
          have hfz15_4 := blk_frozen BK358.out 4
          go_wp2
          repeat (go_quiet (fail); try go_wp2)
          go_meet
          case rel => exact ⟨_, (true), (by first | rfl | (simp; done) | (simp [*]; done)), H', ⟨by have := HK1.out; first | omega | exact Nat.le_refl _⟩, ⟨by (with_reducible repeat (first | apply Kd.R_alloc | apply Kd.R_drewN | apply Kd.R_drew)); exact Kd.R_mono (Kd.R_far (p := ⟨gb358, 4, none⟩) (Kd.R_far (p := ⟨gb358, 3, none⟩) (Kd.R_far (p := ⟨gb358, 2, none⟩) (Kd.R_far (p := ⟨gb358, 1, none⟩) (Kd.R_far (p := ⟨gb358, 0, none⟩) (Kd.R_mono HO_8.out (fun k_ hk => (⟨hk, hk.2⟩ : _ ∧ k_ ≠ gb358))) (fun _ hk => hk.2) (.int .i64 t352)) (fun _ hk => hk.2) (.string t353)) (fun _ hk => hk.2) (.int .i64 t354)) (fun _ hk => hk.2) (.string t355)) (fun _ hk => hk.2) (.string t356)) (fun _ hk => hk.1.2)⟩, ⟨by (with_reducible repeat (first | apply Kd.R_alloc | apply Kd.R_drewN | apply Kd.R_drew)); exact Kd.R_mono (Kd.R_far (p := ⟨gb358, 4, none⟩) (Kd.R_far (p := ⟨gb358, 3, none⟩) (Kd.R_far (p := ⟨gb358, 2, none⟩) (Kd.R_far (p := ⟨gb358, 1, none⟩) (Kd.R_far (p := ⟨gb358, 0, none⟩) (Kd.R_types HO_9.out BK358.out (by decide)) (fun _ hk => hk.2) (.int .i64 t352)) (fun _ hk => hk.2) (.string t353)) (fun _ hk => hk.2) (.int .i64 t354)) (fun _ hk => hk.2) (.string t355)) (fun _ hk => hk.2) (.string t356)) (fun _ hk => trivial)⟩, ⟨by (with_reducible repeat (first | refine blk_drewN ?_ _ | refine blk_drew ?_ | refine blk_alloc ?_ _)); refine blk_put (cs := #[.int .i64 t352, .string t353, .int .i64 t354, .string t355, .string (⟨#[]⟩ : ByteArray)]) ?_ 4 _ rfl; (with_reducible repeat (first | refine blk_drewN ?_ _ | refine blk_drew ?_ | refine blk_alloc ?_ _)); refine blk_put (cs := #[.int .i64 t352, .string t353, .int .i64 t354, .string (⟨#[]⟩ : ByteArray), .string (⟨#[]⟩ : ByteArray)]) ?_ 3 _ rfl; (with_reducible repeat (first | refine blk_drewN ?_ _ | refine blk_drew ?_ | refine blk_alloc ?_ _)); refine blk_put (cs := #[.int .i64 t352, .string t353, .int .i64 0, .string (⟨#[]⟩ : ByteArray), .string (⟨#[]⟩ : ByteArray)]) ?_ 2 _ rfl; (with_reducible repeat (first | refine blk_drewN ?_ _ | refine blk_drew ?_ | refine blk_alloc ?_ _)); refine blk_put (cs := #[.int .i64 t352, .string (⟨#[]⟩ : ByteArray), .int .i64 0, .string (⟨#[]⟩ : ByteArray), .string (⟨#[]⟩ : ByteArray)]) ?_ 1 _ rfl; (with_reducible repeat (first | refine blk_drewN ?_ _ | refine blk_drew ?_ | refine blk_alloc ?_ _)); refine blk_put (cs := #[.int .i64 0, .string (⟨#[]⟩ : ByteArray), .int .i64 0, .string (⟨#[]⟩ : ByteArray), .string (⟨#[]⟩ : ByteArray)]) ?_ 0 _ rfl; (with_reducible repeat (first | refine blk_drewN ?_ _ | refine blk_drew ?_ | refine blk_alloc ?_ _)); exact BK358.out⟩, ⟨bw⟩⟩
         ·rw [if_neg c14] at H
          have c14b0 : decide (t352 < a0) = false := decide_eq_false c14
          clear c14
          (first | rw [c14b0] | (simp only [i64_w, i32_w]; rw [c14b0]) | skip)
          by_cases c16 : (x8_1.length : Int) > 0
          ·rw [if_pos c16] at H
           have c16b0 : decide (0 < (x8_1.length : Int)) = true := decide_eq_true c16
           have c16b1 : decide (0 < x8_1.length) = true := decide_eq_true (by omega)
           clear c16
           obtain ⟨ji17, hji17⟩ : ∃ j_ : Int, (wrap64 ((x8_1.length : Int) - 1)) = j_ := ⟨_, rfl⟩
           replace H : (if 0 ≤ (ji17) then (if (ji17) < (x8_1.length : Int) then (carillonref06_scan.j1 k1 a0 a1 x8_1 x9_1 x10_1 t350 (decide (t352 ≤ ((rd_T23 x8_1 (ji17)).f0))) t352 t353 t354 t355 t356) else (none)) else (none)) = some (r1, r2, r3, r4) := by first | (rw [hji17] at H; exact H) | (simp only [hji17] at H ⊢; exact H)
           have hji17w : (IntKind.i64.wrap ((x8_1.length : Int) - 1)) = ji17 := (i64_w _).trans hji17
           by_cases c18 : 0 ≤ (ji17)
           ·rw [if_pos c18] at H
            have c18b0 : decide (0 ≤ (ji17)) = true := decide_eq_true c18
            clear c18
            by_cases c19 : (ji17) < (x8_1.length : Int)
            ·rw [if_pos c19] at H
             have c19b0 : decide ((ji17) < (x8_1.length : Int)) = true := decide_eq_true c19
             clear c19
             have H' := Aside0.mk H
             clear H
             have hcz20_0 := bc5_0 BK358.out
             have hcz20_1 := bc5_1 BK358.out
             have hcz20_2 := bc5_2 BK358.out
             have hcz20_3 := bc5_3 BK358.out
             have hcz20_4 := bc5_4 BK358.out
             have hfz20_0 := blk_frozen BK358.out 0
             have hfz20_1 := blk_frozen BK358.out 1
             have hfz20_2 := blk_frozen BK358.out 2
             have hfz20_3 := blk_frozen BK358.out 3
             have hfz20_4 := blk_frozen BK358.out 4
             obtain ⟨Ao21, co21, eo21⟩ := Kd.R_slice HO_8.out
             subst eo21
             have p359 : 0 ≤ ((ji17) : Int) := of_decide_eq_true (by first | (with_reducible assumption) | assumption)
             have q359 : (ji17) < (x8_1.length : Int) := of_decide_eq_true (by first | (with_reducible assumption) | assumption)
             obtain ⟨ad359, e359, hx359_0, hx359_1, hx359_2, hx359_3, hx359_4⟩ := at_T23 (Kd.R_reads' HO_8.out).2.2 (ji17) p359 q359
             cases e359
             have hn359_0 : ad359.block ≠ gb358 := Kd.own_blk (by first | exact Kd.R_away HO_8.out (fun _ hk => hk) | exact Kd.R_away HO_8.out (fun _ hk => hk.2) | exact Kd.R_ne HO_8.out BK358.out (by decide))
             have hn359_1 : ad359.block ≠ gb358 := Kd.own_blk (by first | exact Kd.R_away HO_8.out (fun _ hk => hk) | exact Kd.R_away HO_8.out (fun _ hk => hk.2) | exact Kd.R_ne HO_8.out BK358.out (by decide))
             have hn359_2 : ad359.block ≠ gb358 := Kd.own_blk (by first | exact Kd.R_away HO_8.out (fun _ hk => hk) | exact Kd.R_away HO_8.out (fun _ hk => hk.2) | exact Kd.R_ne HO_8.out BK358.out (by decide))
             have hn359_3 : ad359.block ≠ gb358 := Kd.own_blk (by first | exact Kd.R_away HO_8.out (fun _ hk => hk) | exact Kd.R_away HO_8.out (fun _ hk => hk.2) | exact Kd.R_ne HO_8.out BK358.out (by decide))
             have hn359_4 : ad359.block ≠ gb358 := Kd.own_blk (by first | exact Kd.R_away HO_8.out (fun _ hk => hk) | exact Kd.R_away HO_8.out (fun _ hk => hk.2) | exact Kd.R_ne HO_8.out BK358.out (by decide))
             replace hx359_0 := (cell_far (p := ⟨gb358, 0, none⟩) (by first | (rw [add_block]; exact hn359_0) | (show (Addr.add _ _).block ≠ _; rw [add_block]; exact hn359_0) | exact hn359_0) (.int .i64 t352)).trans hx359_0
             replace hx359_1 := (cell_far (p := ⟨gb358, 0, none⟩) (by first | (rw [add_block]; exact hn359_0) | (show (Addr.add _ _).block ≠ _; rw [add_block]; exact hn359_0) | exact hn359_0) (.int .i64 t352)).trans hx359_1
             replace hx359_2 := (cell_far (p := ⟨gb358, 0, none⟩) (by first | (rw [add_block]; exact hn359_0) | (show (Addr.add _ _).block ≠ _; rw [add_block]; exact hn359_0) | exact hn359_0) (.int .i64 t352)).trans hx359_2
             replace hx359_3 := (cell_far (p := ⟨gb358, 0, none⟩) (by first | (rw [add_block]; exact hn359_0) | (show (Addr.add _ _).block ≠ _; rw [add_block]; exact hn359_0) | exact hn359_0) (.int .i64 t352)).trans hx359_3
             replace hx359_4 := (cell_far (p := ⟨gb358, 0, none⟩) (by first | (rw [add_block]; exact hn359_0) | (show (Addr.add _ _).block ≠ _; rw [add_block]; exact hn359_0) | exact hn359_0) (.int .i64 t352)).trans hx359_4
             replace hx359_0 := (cell_far (p := ⟨gb358, 1, none⟩) (by first | (rw [add_block]; exact hn359_1) | (show (Addr.add _ _).block ≠ _; rw [add_block]; exact hn359_1) | exact hn359_1) (.string t353)).trans hx359_0
             replace hx359_1 := (cell_far (p := ⟨gb358, 1, none⟩) (by first | (rw [add_block]; exact hn359_1) | (show (Addr.add _ _).block ≠ _; rw [add_block]; exact hn359_1) | exact hn359_1) (.string t353)).trans hx359_1
             replace hx359_2 := (cell_far (p := ⟨gb358, 1, none⟩) (by first | (rw [add_block]; exact hn359_1) | (show (Addr.add _ _).block ≠ _; rw [add_block]; exact hn359_1) | exact hn359_1) (.string t353)).trans hx359_2
             replace hx359_3 := (cell_far (p := ⟨gb358, 1, none⟩) (by first | (rw [add_block]; exact hn359_1) | (show (Addr.add _ _).block ≠ _; rw [add_block]; exact hn359_1) | exact hn359_1) (.string t353)).trans hx359_3
             replace hx359_4 := (cell_far (p := ⟨gb358, 1, none⟩) (by first | (rw [add_block]; exact hn359_1) | (show (Addr.add _ _).block ≠ _; rw [add_block]; exact hn359_1) | exact hn359_1) (.string t353)).trans hx359_4
             replace hx359_0 := (cell_far (p := ⟨gb358, 2, none⟩) (by first | (rw [add_block]; exact hn359_2) | (show (Addr.add _ _).block ≠ _; rw [add_block]; exact hn359_2) | exact hn359_2) (.int .i64 t354)).trans hx359_0
             replace hx359_1 := (cell_far (p := ⟨gb358, 2, none⟩) (by first | (rw [add_block]; exact hn359_2) | (show (Addr.add _ _).block ≠ _; rw [add_block]; exact hn359_2) | exact hn359_2) (.int .i64 t354)).trans hx359_1
             replace hx359_2 := (cell_far (p := ⟨gb358, 2, none⟩) (by first | (rw [add_block]; exact hn359_2) | (show (Addr.add _ _).block ≠ _; rw [add_block]; exact hn359_2) | exact hn359_2) (.int .i64 t354)).trans hx359_2
             replace hx359_3 := (cell_far (p := ⟨gb358, 2, none⟩) (by first | (rw [add_block]; exact hn359_2) | (show (Addr.add _ _).block ≠ _; rw [add_block]; exact hn359_2) | exact hn359_2) (.int .i64 t354)).trans hx359_3
             replace hx359_4 := (cell_far (p := ⟨gb358, 2, none⟩) (by first | (rw [add_block]; exact hn359_2) | (show (Addr.add _ _).block ≠ _; rw [add_block]; exact hn359_2) | exact hn359_2) (.int .i64 t354)).trans hx359_4
             replace hx359_0 := (cell_far (p := ⟨gb358, 3, none⟩) (by first | (rw [add_block]; exact hn359_3) | (show (Addr.add _ _).block ≠ _; rw [add_block]; exact hn359_3) | exact hn359_3) (.string t355)).trans hx359_0
             replace hx359_1 := (cell_far (p := ⟨gb358, 3, none⟩) (by first | (rw [add_block]; exact hn359_3) | (show (Addr.add _ _).block ≠ _; rw [add_block]; exact hn359_3) | exact hn359_3) (.string t355)).trans hx359_1
             replace hx359_2 := (cell_far (p := ⟨gb358, 3, none⟩) (by first | (rw [add_block]; exact hn359_3) | (show (Addr.add _ _).block ≠ _; rw [add_block]; exact hn359_3) | exact hn359_3) (.string t355)).trans hx359_2
             replace hx359_3 := (cell_far (p := ⟨gb358, 3, none⟩) (by first | (rw [add_block]; exact hn359_3) | (show (Addr.add _ _).block ≠ _; rw [add_block]; exact hn359_3) | exact hn359_3) (.string t355)).trans hx359_3
             replace hx359_4 := (cell_far (p := ⟨gb358, 3, none⟩) (by first | (rw [add_block]; exact hn359_3) | (show (Addr.add _ _).block ≠ _; rw [add_block]; exact hn359_3) | exact hn359_3) (.string t355)).trans hx359_4
             replace hx359_0 := (cell_far (p := ⟨gb358, 4, none⟩) (by first | (rw [add_block]; exact hn359_4) | (show (Addr.add _ _).block ≠ _; rw [add_block]; exact hn359_4) | exact hn359_4) (.string t356)).trans hx359_0
             replace hx359_1 := (cell_far (p := ⟨gb358, 4, none⟩) (by first | (rw [add_block]; exact hn359_4) | (show (Addr.add _ _).block ≠ _; rw [add_block]; exact hn359_4) | exact hn359_4) (.string t356)).trans hx359_1
             replace hx359_2 := (cell_far (p := ⟨gb358, 4, none⟩) (by first | (rw [add_block]; exact hn359_4) | (show (Addr.add _ _).block ≠ _; rw [add_block]; exact hn359_4) | exact hn359_4) (.string t356)).trans hx359_2
             replace hx359_3 := (cell_far (p := ⟨gb358, 4, none⟩) (by first | (rw [add_block]; exact hn359_4) | (show (Addr.add _ _).block ≠ _; rw [add_block]; exact hn359_4) | exact hn359_4) (.string t356)).trans hx359_3
             replace hx359_4 := (cell_far (p := ⟨gb358, 4, none⟩) (by first | (rw [add_block]; exact hn359_4) | (show (Addr.add _ _).block ≠ _; rw [add_block]; exact hn359_4) | exact hn359_4) (.string t356)).trans hx359_4
             (try have hy359_0 := fun (n_ : Nat) => (show (((((((w12.drewN n_).setCell ⟨gb358, 0, none⟩ (.int .i64 t352)).setCell ⟨gb358, 1, none⟩ (.string t353)).setCell ⟨gb358, 2, none⟩ (.int .i64 t354)).setCell ⟨gb358, 3, none⟩ (.string t355)).setCell ⟨gb358, 4, none⟩ (.string t356))).cell? _ = some _ from hx359_0))
             (try have hy359_1 := fun (n_ : Nat) => (show (((((((w12.drewN n_).setCell ⟨gb358, 0, none⟩ (.int .i64 t352)).setCell ⟨gb358, 1, none⟩ (.string t353)).setCell ⟨gb358, 2, none⟩ (.int .i64 t354)).setCell ⟨gb358, 3, none⟩ (.string t355)).setCell ⟨gb358, 4, none⟩ (.string t356))).cell? _ = some _ from hx359_1))
             (try have hy359_2 := fun (n_ : Nat) => (show (((((((w12.drewN n_).setCell ⟨gb358, 0, none⟩ (.int .i64 t352)).setCell ⟨gb358, 1, none⟩ (.string t353)).setCell ⟨gb358, 2, none⟩ (.int .i64 t354)).setCell ⟨gb358, 3, none⟩ (.string t355)).setCell ⟨gb358, 4, none⟩ (.string t356))).cell? _ = some _ from hx359_2))
             (try have hy359_3 := fun (n_ : Nat) => (show (((((((w12.drewN n_).setCell ⟨gb358, 0, none⟩ (.int .i64 t352)).setCell ⟨gb358, 1, none⟩ (.string t353)).setCell ⟨gb358, 2, none⟩ (.int .i64 t354)).setCell ⟨gb358, 3, none⟩ (.string t355)).setCell ⟨gb358, 4, none⟩ (.string t356))).cell? _ = some _ from hx359_3))
             (try have hy359_4 := fun (n_ : Nat) => (show (((((((w12.drewN n_).setCell ⟨gb358, 0, none⟩ (.int .i64 t352)).setCell ⟨gb358, 1, none⟩ (.string t353)).setCell ⟨gb358, 2, none⟩ (.int .i64 t354)).setCell ⟨gb358, 3, none⟩ (.string t355)).setCell ⟨gb358, 4, none⟩ (.string t356))).cell? _ = some _ from hx359_4))
             clear hn359_0
             clear hn359_1
             clear hn359_2
             clear hn359_3
             clear hn359_4
             replace p359 := eq_true p359
             replace q359 := eq_true q359
             go_wp2
             repeat (go_quiet (fail); try go_wp2)
             go_meet
             case rel => (try rw [hji17]); exact ⟨_, (decide (t352 ≤ ((rd_T23 x8_1 (ji17)).f0))), (by first | rfl | (simp; done) | (simp only [← hji17] <;> (first | rfl | simp)) | (simp [*]; done)), H', ⟨by have := HK1.out; first | omega | exact Nat.le_refl _⟩, ⟨by (with_reducible repeat (first | apply Kd.R_alloc | apply Kd.R_drewN | apply Kd.R_drew)); exact Kd.R_mono (Kd.R_far (p := ⟨gb358, 4, none⟩) (Kd.R_far (p := ⟨gb358, 3, none⟩) (Kd.R_far (p := ⟨gb358, 2, none⟩) (Kd.R_far (p := ⟨gb358, 1, none⟩) (Kd.R_far (p := ⟨gb358, 0, none⟩) (Kd.R_mono HO_8.out (fun k_ hk => (⟨hk, hk.2⟩ : _ ∧ k_ ≠ gb358))) (fun _ hk => hk.2) (.int .i64 t352)) (fun _ hk => hk.2) (.string t353)) (fun _ hk => hk.2) (.int .i64 t354)) (fun _ hk => hk.2) (.string t355)) (fun _ hk => hk.2) (.string t356)) (fun _ hk => hk.1.2)⟩, ⟨by (with_reducible repeat (first | apply Kd.R_alloc | apply Kd.R_drewN | apply Kd.R_drew)); exact Kd.R_mono (Kd.R_far (p := ⟨gb358, 4, none⟩) (Kd.R_far (p := ⟨gb358, 3, none⟩) (Kd.R_far (p := ⟨gb358, 2, none⟩) (Kd.R_far (p := ⟨gb358, 1, none⟩) (Kd.R_far (p := ⟨gb358, 0, none⟩) (Kd.R_types HO_9.out BK358.out (by decide)) (fun _ hk => hk.2) (.int .i64 t352)) (fun _ hk => hk.2) (.string t353)) (fun _ hk => hk.2) (.int .i64 t354)) (fun _ hk => hk.2) (.string t355)) (fun _ hk => hk.2) (.string t356)) (fun _ hk => trivial)⟩, ⟨by (with_reducible repeat (first | refine blk_drewN ?_ _ | refine blk_drew ?_ | refine blk_alloc ?_ _)); refine blk_put (cs := #[.int .i64 t352, .string t353, .int .i64 t354, .string t355, .string (⟨#[]⟩ : ByteArray)]) ?_ 4 _ rfl; (with_reducible repeat (first | refine blk_drewN ?_ _ | refine blk_drew ?_ | refine blk_alloc ?_ _)); refine blk_put (cs := #[.int .i64 t352, .string t353, .int .i64 t354, .string (⟨#[]⟩ : ByteArray), .string (⟨#[]⟩ : ByteArray)]) ?_ 3 _ rfl; (with_reducible repeat (first | refine blk_drewN ?_ _ | refine blk_drew ?_ | refine blk_alloc ?_ _)); refine blk_put (cs := #[.int .i64 t352, .string t353, .int .i64 0, .string (⟨#[]⟩ : ByteArray), .string (⟨#[]⟩ : ByteArray)]) ?_ 2 _ rfl; (with_reducible repeat (first | refine blk_drewN ?_ _ | refine blk_drew ?_ | refine blk_alloc ?_ _)); refine blk_put (cs := #[.int .i64 t352, .string (⟨#[]⟩ : ByteArray), .int .i64 0, .string (⟨#[]⟩ : ByteArray), .string (⟨#[]⟩ : ByteArray)]) ?_ 1 _ rfl; (with_reducible repeat (first | refine blk_drewN ?_ _ | refine blk_drew ?_ | refine blk_alloc ?_ _)); refine blk_put (cs := #[.int .i64 0, .string (⟨#[]⟩ : ByteArray), .int .i64 0, .string (⟨#[]⟩ : ByteArray), .string (⟨#[]⟩ : ByteArray)]) ?_ 0 _ rfl; (with_reducible repeat (first | refine blk_drewN ?_ _ | refine blk_drew ?_ | refine blk_alloc ?_ _)); exact BK358.out⟩, ⟨bw⟩⟩
            ·rw [if_neg c19] at H
             exact absurd H (by simp)
           ·rw [if_neg c18] at H
            exact absurd H (by simp)
          ·rw [if_neg c16] at H
           have c16b0 : decide (0 < (x8_1.length : Int)) = false := decide_eq_false c16
           have c16b1 : decide (0 < x8_1.length) = false := decide_eq_false (by omega)
           clear c16
           have H' := Aside0.mk H
           clear H
           have hcz22_0 := bc5_0 BK358.out
           have hcz22_1 := bc5_1 BK358.out
           have hcz22_2 := bc5_2 BK358.out
           have hcz22_3 := bc5_3 BK358.out
           have hcz22_4 := bc5_4 BK358.out
           have hfz22_0 := blk_frozen BK358.out 0
           have hfz22_1 := blk_frozen BK358.out 1
           have hfz22_2 := blk_frozen BK358.out 2
           have hfz22_3 := blk_frozen BK358.out 3
           have hfz22_4 := blk_frozen BK358.out 4
           obtain ⟨Ao23, co23, eo23⟩ := Kd.R_slice HO_8.out
           subst eo23
           go_wp2
           repeat (go_quiet (fail); try go_wp2)
           go_meet
           case rel => exact ⟨_, (false), (by first | rfl | (simp; done) | (simp [*]; done)), H', ⟨by have := HK1.out; first | omega | exact Nat.le_refl _⟩, ⟨by (with_reducible repeat (first | apply Kd.R_alloc | apply Kd.R_drewN | apply Kd.R_drew)); exact Kd.R_mono (Kd.R_far (p := ⟨gb358, 4, none⟩) (Kd.R_far (p := ⟨gb358, 3, none⟩) (Kd.R_far (p := ⟨gb358, 2, none⟩) (Kd.R_far (p := ⟨gb358, 1, none⟩) (Kd.R_far (p := ⟨gb358, 0, none⟩) (Kd.R_mono HO_8.out (fun k_ hk => (⟨hk, hk.2⟩ : _ ∧ k_ ≠ gb358))) (fun _ hk => hk.2) (.int .i64 t352)) (fun _ hk => hk.2) (.string t353)) (fun _ hk => hk.2) (.int .i64 t354)) (fun _ hk => hk.2) (.string t355)) (fun _ hk => hk.2) (.string t356)) (fun _ hk => hk.1.2)⟩, ⟨by (with_reducible repeat (first | apply Kd.R_alloc | apply Kd.R_drewN | apply Kd.R_drew)); exact Kd.R_mono (Kd.R_far (p := ⟨gb358, 4, none⟩) (Kd.R_far (p := ⟨gb358, 3, none⟩) (Kd.R_far (p := ⟨gb358, 2, none⟩) (Kd.R_far (p := ⟨gb358, 1, none⟩) (Kd.R_far (p := ⟨gb358, 0, none⟩) (Kd.R_types HO_9.out BK358.out (by decide)) (fun _ hk => hk.2) (.int .i64 t352)) (fun _ hk => hk.2) (.string t353)) (fun _ hk => hk.2) (.int .i64 t354)) (fun _ hk => hk.2) (.string t355)) (fun _ hk => hk.2) (.string t356)) (fun _ hk => trivial)⟩, ⟨by (with_reducible repeat (first | refine blk_drewN ?_ _ | refine blk_drew ?_ | refine blk_alloc ?_ _)); refine blk_put (cs := #[.int .i64 t352, .string t353, .int .i64 t354, .string t355, .string (⟨#[]⟩ : ByteArray)]) ?_ 4 _ rfl; (with_reducible repeat (first | refine blk_drewN ?_ _ | refine blk_drew ?_ | refine blk_alloc ?_ _)); refine blk_put (cs := #[.int .i64 t352, .string t353, .int .i64 t354, .string (⟨#[]⟩ : ByteArray), .string (⟨#[]⟩ : ByteArray)]) ?_ 3 _ rfl; (with_reducible repeat (first | refine blk_drewN ?_ _ | refine blk_drew ?_ | refine blk_alloc ?_ _)); refine blk_put (cs := #[.int .i64 t352, .string t353, .int .i64 0, .string (⟨#[]⟩ : ByteArray), .string (⟨#[]⟩ : ByteArray)]) ?_ 2 _ rfl; (with_reducible repeat (first | refine blk_drewN ?_ _ | refine blk_drew ?_ | refine blk_alloc ?_ _)); refine blk_put (cs := #[.int .i64 t352, .string (⟨#[]⟩ : ByteArray), .int .i64 0, .string (⟨#[]⟩ : ByteArray), .string (⟨#[]⟩ : ByteArray)]) ?_ 1 _ rfl; (with_reducible repeat (first | refine blk_drewN ?_ _ | refine blk_drew ?_ | refine blk_alloc ?_ _)); refine blk_put (cs := #[.int .i64 0, .string (⟨#[]⟩ : ByteArray), .int .i64 0, .string (⟨#[]⟩ : ByteArray), .string (⟨#[]⟩ : ByteArray)]) ?_ 0 _ rfl; (with_reducible repeat (first | refine blk_drewN ?_ _ | refine blk_drew ?_ | refine blk_alloc ?_ _)); exact BK358.out⟩, ⟨bw⟩⟩
        case rest =>
         clear HC10
         try clear c1
         try clear c2
         try clear p2
         try clear c3
         try clear c3b0
         try clear p3
         try clear q3
         try clear hx3
         try clear c4
         try clear c4b0
         try clear c4b1
         try clear c5
         try clear c5b0
         try clear c5b1
         try clear p6
         try clear c7
         try clear c7b0
         try clear c7b1
         try clear c9
         try clear c14
         try clear c14b0
         try clear c16
         try clear c16b0
         try clear c16b1
         try clear c18
         try clear c18b0
         try clear c19
         try clear c19b0
         try clear hcz13_0
         try clear hcz13_1
         try clear hcz13_2
         try clear hcz13_3
         try clear hcz13_4
         try clear hcz15_0
         try clear hcz15_1
         try clear hcz15_2
         try clear hcz15_3
         try clear hcz15_4
         try clear hcz20_0
         try clear hcz20_1
         try clear hcz20_2
         try clear hcz20_3
         try clear hcz20_4
         try clear hcz22_0
         try clear hcz22_1
         try clear hcz22_2
         try clear hcz22_3
         try clear hcz22_4
         try clear hfz13_0
         try clear hfz13_1
         try clear hfz13_2
         try clear hfz13_3
         try clear hfz13_4
         try clear hfz15_0
         try clear hfz15_1
         try clear hfz15_2
         try clear hfz15_3
         try clear hfz15_4
         try clear hfz20_0
         try clear hfz20_1
         try clear hfz20_2
         try clear hfz20_3
         try clear hfz20_4
         try clear hfz22_0
         try clear hfz22_1
         try clear hfz22_2
         try clear hfz22_3
         try clear hfz22_4
         try clear hx359_0
         try clear hx359_1
         try clear hx359_2
         try clear hx359_3
         try clear hx359_4
         try clear p2
         try clear p359
         try clear q359
         obtain ⟨kq, x64_9, rfl, HA, HJ9, HO_8, HO_9, BK358, HB⟩ := hcut
         cases kq with
         | zero => exact absurd HA.out (by simp [carillonref06_scan.j1])
         | succ kj9 =>
          have H := HA.out
          clear HA
          simp only [carillonref06_scan.j1] at H
          by_cases c24 : x64_9 = true
          ·subst c24
           have H1 : (some (x8_1, x9_1, x10_1, 11)) = some (r1, r2, r3, r4) := by rw [if_pos rfl] at H; exact H
           clear H
           have H := H1
           clear H1
           simp only [Option.some.injEq, Prod.mk.injEq] at H
           obtain ⟨rfl, rfl, rfl, rfl⟩ := H
           go_wp2
           refine bodyPost_ret (results_list (rs := [.tmp 4, .tmp 5, .tmp 6, .tmp 7]) rfl (by simp) (.tmp (.tmp (.tmp (.tmp .nil))))) rfl ?_
           exact ⟨_, _, er, by (with_reducible repeat (first | apply Kd.R_alloc | apply Kd.R_drewN | apply Kd.R_drew)); exact Kd.R_mono HO_8.out (fun _ hk => trivial), by (with_reducible repeat (first | apply Kd.R_alloc | apply Kd.R_drewN | apply Kd.R_drew)); exact HO_9.out, bw⟩
          ·replace c24 := Bool.eq_false_iff.mpr c24
           subst c24
           have H1 : (if x8_1.length < 2199023255552 then (if x9_1.length < 17592186044416 then (carillonref06_scan.l0 kj9 a0 a1 (x8_1 ++ [(⟨t352, t353, t354, t355, t356⟩ : S23)]) (x9_1 ++ [x10_1]) (wrap64 (x10_1 + t350))) else (none)) else (none)) = some (r1, r2, r3, r4) := by rw [if_neg (show ¬ (false = true) by decide)] at H; exact H
           clear H
           have H := H1
           clear H1
           by_cases c25 : x8_1.length < 2199023255552
           ·rw [if_pos c25] at H
            have LMc25 := Aside0.mk c25
            clear c25
            obtain ⟨y360, hy360⟩ : ∃ y_ : List (S23), y_ = (x8_1 ++ [(⟨t352, t353, t354, t355, t356⟩ : S23)]) := ⟨_, rfl⟩
            replace H : (if x9_1.length < 17592186044416 then (carillonref06_scan.l0 kj9 a0 a1 y360 (x9_1 ++ [x10_1]) (wrap64 (x10_1 + t350))) else (none)) = some (r1, r2, r3, r4) := by first | (rw [hy360]; with_reducible exact H) | (have H2_ := (Option.bind_some _ _).symm.trans H; rw [hy360]; with_reducible exact H2_) | (have H2_ := (Option.bind_some _ _).symm.trans H; with_reducible exact H2_) | with_reducible exact H | (rw [hy360]; exact H) | exact H
            have Ny360 := Aside0.mk hy360
            clear hy360
            by_cases c26 : x9_1.length < 17592186044416
            ·rw [if_pos c26] at H
             have LMc26 := Aside0.mk c26
             clear c26
             obtain ⟨y363, hy363⟩ : ∃ y_ : List Int, y_ = (x9_1 ++ [x10_1]) := ⟨_, rfl⟩
             replace H : (carillonref06_scan.l0 kj9 a0 a1 y360 y363 (wrap64 (x10_1 + t350))) = some (r1, r2, r3, r4) := by first | (rw [hy363]; with_reducible exact H) | (have H2_ := (Option.bind_some _ _).symm.trans H; rw [hy363]; with_reducible exact H2_) | (have H2_ := (Option.bind_some _ _).symm.trans H; with_reducible exact H2_) | with_reducible exact H | (rw [hy363]; exact H) | exact H
             have Ny363 := Aside0.mk hy363
             clear hy363
             have H' := Aside0.mk H
             clear H
             have hcz27_0 := bc5_0 BK358.out
             have hcz27_1 := bc5_1 BK358.out
             have hcz27_2 := bc5_2 BK358.out
             have hcz27_3 := bc5_3 BK358.out
             have hcz27_4 := bc5_4 BK358.out
             have hfz27_0 := blk_frozen BK358.out 0
             have hfz27_1 := blk_frozen BK358.out 1
             have hfz27_2 := blk_frozen BK358.out 2
             have hfz27_3 := blk_frozen BK358.out 3
             have hfz27_4 := blk_frozen BK358.out 4
             go_wp2_with (first | ((with_reducible refine gate_builtin (b := .append) (xs := #[.tmp 68, .tmp 70]) rfl ?_); (try (refine gate_guard (by rfl) ?_; dsimp only)); at_builtin; refine Kd.R_append k23 (w0 := w) w.heap.size rfl (.tmp 68) (.tmp 70) 31 23 (.agg #[(.int .i64 0), (.string ⟨#[]⟩), (.int .i64 0), (.string ⟨#[]⟩), (.string ⟨#[]⟩)]) 64 rfl Tryd.underlying31 info23 rfl (by decide) (by omega) u8 x8_1 (⟨t352, t353, t354, t355, t356⟩ : S23) [.int .i64 t352, .string t353, .int .i64 t354, .string t355, .string t356] (fun k_ => k_ ≠ gb358) (fun _ => False) rfl rfl ?aP (fun _ hk => hk.elim) ?aF ?aO ?aB ?aS ?aL ?_; (case aP => exact k23_mkM _ _ _ (⟨t352, t353, t354, t355, t356⟩ : S23)); (case aB => exact bw); (case aF => exact (fun k_ hk => Kd.freshB (g := gb358) (o := .cells #[.int .i64 t352, .string t353, .int .i64 t354, .string t355, .string t356] 23 (0, 0)) (bk BK358.out) k_ hk)); (case aO => exact (by (with_reducible repeat (first | apply Kd.R_alloc | apply Kd.R_drewN | apply Kd.R_drew)); exact HO_8.out)); (case aS => exact (below_size bw)); (case aL => have := LMc25.out; omega); intro v361 w28 ho hb hg hat; rw [← Ny360.out] at ho; have n0_ := Aside0.mk (Kd.R_over' (by (with_reducible repeat (first | apply Kd.R_alloc | apply Kd.R_drewN | apply Kd.R_drew)); exact HO_9.out) (Kd.R_typed (by (with_reducible repeat (first | apply Kd.R_alloc | apply Kd.R_drewN | apply Kd.R_drew)); exact HO_8.out)) (by decide) hg); have n1_ := Aside0.mk (blk_grown (g := gb358) (o := .cells #[.int .i64 t352, .string t353, .int .i64 t354, .string t355, .string t356] 23 (0, 0)) (bk BK358.out) hg (Kd.R_away HO_8.out (fun _ hk => hk))); have n2_ := Aside0.mk (hb); have n3_ := Aside0.mk (ho); clear HO_9; clear BK358; clear HB; clear HO_8; have HO_9 := n0_; have BK358 := n1_; have HB := n2_; have HO362 := n3_; clear n0_ n1_ n2_ n3_; clear ho hb hg hat) | ((with_reducible refine gate_builtin (b := .append) (xs := #[.tmp 72, .tmp 74]) rfl ?_); (try (refine gate_guard (by rfl) ?_; dsimp only)); at_builtin; refine Kd.R_append (Kd.int .i64) (w0 := w) w.heap.size rfl (.tmp 72) (.tmp 74) 50 3 (.int .i64 0) 8 rfl Tryd.underlying50 info3 rfl (by decide) (by omega) u9 x9_1 x10_1 [.int .i64 x10_1] (fun _ => True) (fun _ => False) rfl rfl ?aP (fun _ hk => hk.elim) ?aF ?aO ?aB ?aS ?aL ?_; (case aP => exact rfl); (case aB => exact bw); (case aF => exact (fun _ _ => trivial)); (case aO => exact (by (with_reducible repeat (first | apply Kd.R_alloc | apply Kd.R_drewN | apply Kd.R_drew)); exact HO_9.out)); (case aS => exact (below_size bw)); (case aL => have := LMc26.out; omega); intro v364 w29 ho hb hg hat; rw [← Ny363.out] at ho; have n0_ := Aside0.mk (blk_grown (g := gb358) (o := .cells #[.int .i64 t352, .string t353, .int .i64 t354, .string t355, .string t356] 23 (0, 0)) (bk BK358.out) hg (Kd.R_ne HO_9.out BK358.out (by decide))); have n1_ := Aside0.mk (Kd.R_over' (by (with_reducible repeat (first | apply Kd.R_alloc | apply Kd.R_drewN | apply Kd.R_drew)); exact HO362.out) (Kd.R_typed (by (with_reducible repeat (first | apply Kd.R_alloc | apply Kd.R_drewN | apply Kd.R_drew)); exact HO_9.out)) (by decide) hg); have n2_ := Aside0.mk (hb); have n3_ := Aside0.mk (ho); clear BK358; clear HO362; clear HB; clear HO_9; have BK358 := n0_; have HO362 := n1_; have HB := n2_; have HO365 := n3_; clear n0_ n1_ n2_ n3_; clear ho hb hg hat))
             go_roundg kj9
             case measure => have := HK1.out; have := HJ9.out; omega
             case rel => exact ⟨(y360), (y363), (wrap64 (x10_1 + t350)), (by first | rfl | (simp; done) | (simp [*]; done)), H', ⟨by have := HK1.out; have := HJ9.out; omega⟩, ⟨by (with_reducible repeat (first | apply Kd.R_alloc | apply Kd.R_drewN | apply Kd.R_drew)); exact Kd.R_mono HO362.out (fun _ hk => trivial)⟩, ⟨by (with_reducible repeat (first | apply Kd.R_alloc | apply Kd.R_drewN | apply Kd.R_drew)); exact HO365.out⟩, ⟨bw⟩⟩
            ·rw [if_neg c26] at H
             exact absurd H (by simp)
           ·rw [if_neg c25] at H
            exact absurd H (by simp)
       ·replace c9 := Bool.eq_false_iff.mpr c9
        subst c9
        have H1 : (some (x8_1, x9_1, x10_1, 10)) = some (r1, r2, r3, r4) := by rw [if_neg (show ¬ (false = true) by decide)] at H; exact H
        clear H
        have H := H1
        clear H1
        simp only [Option.some.injEq, Prod.mk.injEq] at H
        obtain ⟨rfl, rfl, rfl, rfl⟩ := H
        go_wp2_with (first | (go_at_call 40; (with_reducible refine (carillonref02_Take.calls k1 (a1.extract (x10_1 : Int).toNat a1.size) t349 t350 t351 _ A6.out).mono ?_); rintro e w' ⟨rfl, ⟨nd, rfl⟩⟩; (try first | exact ⟨rfl, _, World.drewN_drewN _ _ _⟩ | exact ⟨rfl, _, Eq.trans (World.drewN_drewN _ _ _) (congrArg (World.drewN _) (Nat.add_assoc _ _ _))⟩)) | (go_at_call 41; (with_reducible refine (carillonref06_read.calls k1 t349 t352 t353 t354 t355 t356 false _ A8.out).mono ?_); rintro e w30 ⟨rfl, hb⟩; have n0_ := Aside0.mk (Kd.R_below (by (with_reducible repeat (first | apply Kd.R_alloc | apply Kd.R_drewN | apply Kd.R_drew)); exact HO_8.out) hb); have n1_ := Aside0.mk (Kd.R_below (by (with_reducible repeat (first | apply Kd.R_alloc | apply Kd.R_drewN | apply Kd.R_drew)); exact HO_9.out) hb); have n2_ := Aside0.mk (below_step bw hb); clear HO_8; clear HO_9; clear HB; have HO_8 := n0_; have HO_9 := n1_; have HB := n2_; clear n0_ n1_ n2_; (try clear hb); (try clear hb2); (try clear hk); (try clear hi)) | ((with_reducible refine gate_dst (N := 14) rfl ?_); (try (refine gate_guard (by rfl) ?_; dsimp only)); refine box_event ?hg (N := 14) ?hd (cs := #[.int .i64 0, .string (⟨#[]⟩ : ByteArray), .int .i64 0, .string (⟨#[]⟩ : ByteArray), .string (⟨#[]⟩ : ByteArray)]) (t := 23) ?hr ?_; (case hd => rfl); (case hg => rfl); (case hr => first | (go_simp; done) | (go_simp; rfl)); intro gb358 hg w31 hbox hb; have n0_ := Aside0.mk (Kd.R_below (Kd.R_elderB (by (with_reducible repeat (first | apply Kd.R_alloc | apply Kd.R_drewN | apply Kd.R_drew)); exact HO_8.out) gb358 (Nat.le_of_eq hg.symm)) hb); have n1_ := Aside0.mk (Kd.R_below (by (with_reducible repeat (first | apply Kd.R_alloc | apply Kd.R_drewN | apply Kd.R_drew)); exact HO_9.out) hb); have n2_ := Aside0.mk (below_step bw hb); have n3_ := Aside0.mk (hbox); have n4_ := Aside0.mk ((g1 hg bw : w.heap.size ≤ gb358)); have n5_ := Aside0.mk ((g1 hg bw : w.heap.size ≤ gb358)); clear HO_8; clear HO_9; clear HB; have HO_8 := n0_; have HO_9 := n1_; have HB := n2_; have BK358 := n3_; have GW358 := n4_; have GE358 := n5_; clear n0_ n1_ n2_ n3_ n4_ n5_; clear hb hbox hg; have hcz32_0 := bc5_0 BK358.out; have hcz32_1 := bc5_1 BK358.out; have hcz32_2 := bc5_2 BK358.out; have hcz32_3 := bc5_3 BK358.out; have hcz32_4 := bc5_4 BK358.out; have hfz32_0 := blk_frozen BK358.out 0; have hfz32_1 := blk_frozen BK358.out 1; have hfz32_2 := blk_frozen BK358.out 2; have hfz32_3 := blk_frozen BK358.out 3; have hfz32_4 := blk_frozen BK358.out 4))
        refine bodyPost_ret (results_list (rs := [.tmp 4, .tmp 5, .tmp 6, .tmp 7]) rfl (by simp) (.tmp (.tmp (.tmp (.tmp .nil))))) rfl ?_
        exact ⟨_, _, er, by (with_reducible repeat (first | apply Kd.R_alloc | apply Kd.R_drewN | apply Kd.R_drew)); exact Kd.R_mono (Kd.R_far (p := ⟨gb358, 4, none⟩) (Kd.R_far (p := ⟨gb358, 3, none⟩) (Kd.R_far (p := ⟨gb358, 2, none⟩) (Kd.R_far (p := ⟨gb358, 1, none⟩) (Kd.R_far (p := ⟨gb358, 0, none⟩) (Kd.R_mono HO_8.out (fun k_ hk => (⟨hk, hk.2⟩ : _ ∧ k_ ≠ gb358))) (fun _ hk => hk.2) (.int .i64 t352)) (fun _ hk => hk.2) (.string t353)) (fun _ hk => hk.2) (.int .i64 t354)) (fun _ hk => hk.2) (.string t355)) (fun _ hk => hk.2) (.string t356)) (fun _ hk => trivial), by (with_reducible repeat (first | apply Kd.R_alloc | apply Kd.R_drewN | apply Kd.R_drew)); exact Kd.R_mono (Kd.R_far (p := ⟨gb358, 4, none⟩) (Kd.R_far (p := ⟨gb358, 3, none⟩) (Kd.R_far (p := ⟨gb358, 2, none⟩) (Kd.R_far (p := ⟨gb358, 1, none⟩) (Kd.R_far (p := ⟨gb358, 0, none⟩) (Kd.R_types HO_9.out BK358.out (by decide)) (fun _ hk => hk.2) (.int .i64 t352)) (fun _ hk => hk.2) (.string t353)) (fun _ hk => hk.2) (.int .i64 t354)) (fun _ hk => hk.2) (.string t355)) (fun _ hk => hk.2) (.string t356)) (fun _ hk => trivial), bw⟩
      ·rw [if_neg c7] at H
       have c7b0 : (t351 == 0) = false := beq_eq_false_iff_ne.mpr c7
       have c7b1 : (t351 != 0) = true := bne_iff_ne.mpr c7
       simp only [Option.some.injEq, Prod.mk.injEq] at H
       obtain ⟨rfl, rfl, rfl, rfl⟩ := H
       go_wp2_with (first | (go_at_call 40; (with_reducible refine (carillonref02_Take.calls k1 (a1.extract (x10_1 : Int).toNat a1.size) t349 t350 t351 _ A6.out).mono ?_); rintro e w' ⟨rfl, ⟨nd, rfl⟩⟩; (try first | exact ⟨rfl, _, World.drewN_drewN _ _ _⟩ | exact ⟨rfl, _, Eq.trans (World.drewN_drewN _ _ _) (congrArg (World.drewN _) (Nat.add_assoc _ _ _))⟩)))
       refine bodyPost_ret (results_list (rs := [.tmp 4, .tmp 5, .tmp 6, .tmp 7]) rfl (by simp) (.tmp (.tmp (.tmp (.tmp .nil))))) rfl ?_
       exact ⟨_, _, er, by (with_reducible repeat (first | apply Kd.R_alloc | apply Kd.R_drewN | apply Kd.R_drew)); exact HO_8.out, by (with_reducible repeat (first | apply Kd.R_alloc | apply Kd.R_drewN | apply Kd.R_drew)); exact HO_9.out, bw⟩
     ·rw [if_neg c5] at H
      exact absurd H (by simp)
    ·rw [if_neg c4] at H
     exact absurd H (by simp)
   ·rw [if_neg c3] at H
    have c3b0 : decide (x10_1 < (a1.size : Int)) = false := decide_eq_false c3
    clear c3
    simp only [Option.some.injEq, Prod.mk.injEq] at H
    obtain ⟨rfl, rfl, rfl, rfl⟩ := H
    go_wp2
    refine bodyPost_ret (results_list (rs := [.tmp 4, .tmp 5, .tmp 6, .tmp 7]) rfl (by simp) (.tmp (.tmp (.tmp (.tmp .nil))))) rfl ?_
    exact ⟨_, _, er, by (with_reducible repeat (first | apply Kd.R_alloc | apply Kd.R_drewN | apply Kd.R_drew)); exact HO_8.out, by (with_reducible repeat (first | apply Kd.R_alloc | apply Kd.R_drewN | apply Kd.R_drew)); exact HO_9.out, bw⟩

/-! ### carillonref06_Scan: function 14 -/
def carillonref06_Scan.f (k : Nat) (a0 : Int) (a1 : ByteArray) : Option ((List (S23)) × Int × Int) := (carillonref06_scan.f k a0 a1).bind fun bt366 => (some (bt366.1, bt366.2.2.1, bt366.2.2.2))
theorem carillonref06_Scan.mono : ∀ a0 a1 k, LeO (carillonref06_Scan.f k a0 a1) (carillonref06_Scan.f (k + 1) a0 a1) := by
 intro a0 a1 k
 unfold carillonref06_Scan.f
 repeat' first
   | (with_reducible exact carillonref06_scan.mono _ _ _)
   | (with_reducible exact LeO.refl _)
   | (with_reducible exact LeO.none _)
   | (with_reducible refine LeO.ite ?_ ?_)
   | (with_reducible refine LeO.bind ?_ (fun _ => ?_))
   | exact carillonref06_scan.mono _ _ _
   | exact LeO.none _
   | refine LeO.ite ?_ ?_
   | refine LeO.bind ?_ (fun _ => ?_)
set_option maxHeartbeats 8000000 in
set_option maxRecDepth 100000 in
theorem carillonref06_Scan.calls (k : Nat) (a0 : Int) (a1 : ByteArray) (r1 : List (S23)) (r2 : Int) (r3 : Int) (w : World) (h : carillonref06_Scan.f k a0 a1 = some (r1, r2, r3)) :
  Calls Tryd.prog 14 #[.int .i64 a0, .string a1] w fun e w' => ∃ v0_ : Value, e = .returned (.tuple #[v0_, .int .i64 r2, .int .i64 r3]) ∧ Kd.R k23 23 w' w.heap.size (fun _ => True) v0_ r1 ∧ Below w.heap.size w w' := by
 have HB := Aside0.mk (Below.refl w.heap.size w)
 have H : ((carillonref06_scan.f k a0 a1).bind fun bt366 => (some (bt366.1, bt366.2.2.1, bt366.2.2.2))) = some (r1, r2, r3) := h
 clear h
 replace H := Option.bind_eq_some_iff.mp H
 obtain ⟨⟨t366, t367, t368, t369⟩, A30, H⟩ := H
 replace H : (some (t366, t368, t369)) = some (r1, r2, r3) := H
 have A3 := Aside0.mk A30
 clear A30
 simp only [Option.some.injEq, Prod.mk.injEq] at H
 obtain ⟨rfl, rfl, rfl⟩ := H
 go_enter Tryd.func14, Tryd.ntmps14
 go_wp2_with (first | ((with_reducible refine gate_callee (f := 29) rfl ?_); refine goesL_ (some 14) rfl rfl Tryd.func29 (by kernel_rfl) rfl #[.int .i64 a0, .string a1] rfl am ?_; (with_reducible refine (carillonref06_scan.calls k a0 a1 t366 t367 t368 t369 _ A3.out).mono ?_); rintro e w4 ⟨v370, v372, rfl, ho0, ho1, hb⟩; refine ⟨_, rfl, ?_⟩; have n0_ := Aside0.mk (Kd.R_lower ho0 (below_size bw)); have n1_ := Aside0.mk (Kd.R_lower ho1 (below_size bw)); have n2_ := Aside0.mk (below_step bw hb); clear HB; have HO371 := n0_; have HO373 := n1_; have HB := n2_; clear n0_ n1_ n2_; (try clear hb); (try clear hb2); (try clear hk); (try clear hi); (try clear ho0); (try clear ho1)))
 go_ret3
 exact ⟨_, er, by (with_reducible repeat (first | apply Kd.R_alloc | apply Kd.R_drewN | apply Kd.R_drew)); exact HO371.out, bw⟩

/-! ### carillonlaw06_records: function 16 -/
def carillonlaw06_records.l0 : Nat → List (S23) → List (S23) → Int → Option (Bool)
 | 0, _, _, _ => none
 | k + 1, x0, x1, x5 => if x5 < (x0.length : Int) then (if 0 ≤ x5 then (if x5 < (x1.length : Int) then (if (!(((rd_T23 x0 x5).f0) == ((rd_T23 x1 x5).f0)) || (!((((rd_T23 x0 x5).f1).toList) == (((rd_T23 x1 x5).f1).toList)) || (!(((rd_T23 x0 x5).f2) == ((rd_T23 x1 x5).f2)) || (!((((rd_T23 x0 x5).f3).toList) == (((rd_T23 x1 x5).f3).toList)) || (!((((rd_T23 x0 x5).f4).toList) == (((rd_T23 x1 x5).f4).toList))))))) = true then (some false) else (carillonlaw06_records.l0 k x0 x1 (wrap64 (x5 + 1)))) else (none)) else (none)) else (some true)
def carillonlaw06_records.f (k : Nat) (l0 : List (S23)) (l1 : List (S23)) : Option (Bool) := if (l0.length : Int) = (l1.length : Int) then (carillonlaw06_records.l0 k l0 l1 0) else (some false)
theorem carillonlaw06_records.mono_l : ∀ k, (∀ y0 y1 y2, LeO (carillonlaw06_records.l0 k y0 y1 y2) (carillonlaw06_records.l0 (k + 1) y0 y1 y2))
 | 0 => fun _ _ _ r h => by simp [carillonlaw06_records.l0] at h
 | k + 1 => by
  have ih0 := carillonlaw06_records.mono_l k
  ·intro y0 y1 y2
   unfold carillonlaw06_records.l0
   repeat' first
   | (with_reducible exact ih0 _ _ _)
   | (with_reducible exact LeO.refl _)
   | (with_reducible exact LeO.none _)
   | (with_reducible refine LeO.ite ?_ ?_)
   | (with_reducible refine LeO.bind ?_ (fun _ => ?_))
   | exact ih0 _ _ _
   | exact LeO.none _
   | refine LeO.ite ?_ ?_
   | refine LeO.bind ?_ (fun _ => ?_)
theorem carillonlaw06_records.mono : ∀ a0 a1 k, LeO (carillonlaw06_records.f k a0 a1) (carillonlaw06_records.f (k + 1) a0 a1) := by
 intro a0 a1 k
 have ih0 := carillonlaw06_records.mono_l k
 unfold carillonlaw06_records.f
 repeat' first
   | (with_reducible exact ih0 _ _ _)
   | (with_reducible exact LeO.refl _)
   | (with_reducible exact LeO.none _)
   | (with_reducible refine LeO.ite ?_ ?_)
   | (with_reducible refine LeO.bind ?_ (fun _ => ?_))
   | exact ih0 _ _ _
   | exact LeO.none _
   | refine LeO.ite ?_ ?_
   | refine LeO.bind ?_ (fun _ => ?_)
set_option maxHeartbeats 8000000 in
set_option maxRecDepth 100000 in
theorem carillonlaw06_records.calls (k : Nat) (A0 : Option Addr) (c0 : Nat) (l0 : List (S23)) (A1 : Option Addr) (c1 : Nat) (l1 : List (S23)) (r : Bool) (w : World) (hr0 : Kd.C k23 w A0 l0.length l0) (hc0 : l0.length ≤ c0) (hr1 : Kd.C k23 w A1 l1.length l1) (hc1 : l1.length ≤ c1) (h : carillonlaw06_records.f k l0 l1 = some r) :
  Calls Tryd.prog 16 #[.slice A0 l0.length c0, .slice A1 l1.length c1] w fun e w' => e = .returned (.bool r) ∧ Drawn0 w w' := by
 have hu23 := Tryd.underlying23
 have HR0 := Aside0.mk hr0
 have HC0 := Aside0.mk hc0
 clear hr0 hc0
 have HR1 := Aside0.mk hr1
 have HC1 := Aside0.mk hc1
 clear hr1 hc1
 have H : (if (l0.length : Int) = (l1.length : Int) then (carillonlaw06_records.l0 k l0 l1 0) else (some false)) = some r := h
 clear h
 by_cases c3 : (l0.length : Int) = (l1.length : Int)
 ·rw [if_pos c3] at H
  have c3b0 : ((l0.length : Int) == (l1.length : Int)) = true := beq_iff_eq.mpr c3
  have c3b1 : ((l0.length : Int) != (l1.length : Int)) = false := bne_eq_false_iff_eq.mpr c3
  have c3b2 : (l0.length == l1.length) = true := by first | simpa using c3 | (simp at c3 ⊢; omega)
  clear c3
  have H' := Aside0.mk H
  clear H
  go_enter Tryd.func16, Tryd.ntmps16
  go_wp2
  go_loopg [5] k (fun kq v5 w' => ∃ (x5_1 : Int), v5 = .int .i64 x5_1 ∧ Aside0 (carillonlaw06_records.l0 kq l0 l1 x5_1 = some r) ∧ Aside0 (kq ≤ k) ∧ Drawn0 w w')
  case atStart => exact ⟨(0), (by first | rfl | (simp; done) | (simp [*]; done)), H', ⟨Nat.le_refl _⟩, by repeat (first | exact Drawn0.refl _ | apply Drawn0.step)⟩
  case round =>
   clear H'
   try clear c1
   try clear p2
   try clear c3
   try clear c3b0
   try clear c3b1
   try clear c3b2
   obtain ⟨x5_1, rfl, HA, HK1, ⟨m1, rfl⟩⟩ := hrel
   cases gk with
   | zero => exact absurd HA.out (by simp [carillonlaw06_records.l0])
   | succ k1 =>
    have H := HA.out
    clear HA
    simp only [carillonlaw06_records.l0] at H
    by_cases c4 : x5_1 < (l0.length : Int)
    ·rw [if_pos c4] at H
     have c4b0 : decide (x5_1 < (l0.length : Int)) = true := decide_eq_true c4
     clear c4
     by_cases c5 : 0 ≤ x5_1
     ·rw [if_pos c5] at H
      have c5b0 : decide (0 ≤ x5_1) = true := decide_eq_true c5
      clear c5
      by_cases c6 : x5_1 < (l1.length : Int)
      ·rw [if_pos c6] at H
       have c6b0 : decide (x5_1 < (l1.length : Int)) = true := decide_eq_true c6
       clear c6
       by_cases c7 : (!(((rd_T23 l0 x5_1).f0) == ((rd_T23 l1 x5_1).f0)) || (!((((rd_T23 l0 x5_1).f1).toList) == (((rd_T23 l1 x5_1).f1).toList)) || (!(((rd_T23 l0 x5_1).f2) == ((rd_T23 l1 x5_1).f2)) || (!((((rd_T23 l0 x5_1).f3).toList) == (((rd_T23 l1 x5_1).f3).toList)) || (!((((rd_T23 l0 x5_1).f4).toList) == (((rd_T23 l1 x5_1).f4).toList))))))) = true
       ·rw [if_pos c7] at H
        have c7b0 : (!(((rd_T23 l0 x5_1).f0) == ((rd_T23 l1 x5_1).f0)) || (!((((rd_T23 l0 x5_1).f1).toList) == (((rd_T23 l1 x5_1).f1).toList)) || (!(((rd_T23 l0 x5_1).f2) == ((rd_T23 l1 x5_1).f2)) || (!((((rd_T23 l0 x5_1).f3).toList) == (((rd_T23 l1 x5_1).f3).toList)) || (!((((rd_T23 l0 x5_1).f4).toList) == (((rd_T23 l1 x5_1).f4).toList))))))) = true := c7
        clear c7
        obtain rfl := Option.some.inj H
        have p374 : 0 ≤ (x5_1 : Int) := of_decide_eq_true (by first | (with_reducible assumption) | assumption)
        have q374 : x5_1 < (l0.length : Int) := of_decide_eq_true (by first | (with_reducible assumption) | assumption)
        obtain ⟨ad374, e374, hx374_0, hx374_1, hx374_2, hx374_3, hx374_4⟩ := at_T23 HR0.out x5_1 p374 q374
        cases e374
        replace p374 := eq_true p374
        replace q374 := eq_true q374
        have p375 : 0 ≤ (x5_1 : Int) := of_decide_eq_true (by first | (with_reducible assumption) | assumption)
        have q375 : x5_1 < (l1.length : Int) := of_decide_eq_true (by first | (with_reducible assumption) | assumption)
        obtain ⟨ad375, e375, hx375_0, hx375_1, hx375_2, hx375_3, hx375_4⟩ := at_T23 HR1.out x5_1 p375 q375
        cases e375
        replace p375 := eq_true p375
        replace q375 := eq_true q375
        go_wp2
        repeat (go_quiet (fail); try go_wp2)
        go_ret
        exact ⟨by first | rfl | (simp; done) | (simp [*]; done), by repeat (first | exact Drawn0.refl _ | apply Drawn0.step)⟩
       ·rw [if_neg c7] at H
        have c7b0 : (!(((rd_T23 l0 x5_1).f0) == ((rd_T23 l1 x5_1).f0)) || (!((((rd_T23 l0 x5_1).f1).toList) == (((rd_T23 l1 x5_1).f1).toList)) || (!(((rd_T23 l0 x5_1).f2) == ((rd_T23 l1 x5_1).f2)) || (!((((rd_T23 l0 x5_1).f3).toList) == (((rd_T23 l1 x5_1).f3).toList)) || (!((((rd_T23 l0 x5_1).f4).toList) == (((rd_T23 l1 x5_1).f4).toList))))))) = false := by simpa using c7
        clear c7
        have H' := Aside0.mk H
        clear H
        have p374 : 0 ≤ (x5_1 : Int) := of_decide_eq_true (by first | (with_reducible assumption) | assumption)
        have q374 : x5_1 < (l0.length : Int) := of_decide_eq_true (by first | (with_reducible assumption) | assumption)
        obtain ⟨ad374, e374, hx374_0, hx374_1, hx374_2, hx374_3, hx374_4⟩ := at_T23 HR0.out x5_1 p374 q374
        cases e374
        replace p374 := eq_true p374
        replace q374 := eq_true q374
        have p375 : 0 ≤ (x5_1 : Int) := of_decide_eq_true (by first | (with_reducible assumption) | assumption)
        have q375 : x5_1 < (l1.length : Int) := of_decide_eq_true (by first | (with_reducible assumption) | assumption)
        obtain ⟨ad375, e375, hx375_0, hx375_1, hx375_2, hx375_3, hx375_4⟩ := at_T23 HR1.out x5_1 p375 q375
        cases e375
        replace p375 := eq_true p375
        replace q375 := eq_true q375
        go_wp2
        repeat (go_quiet (fail); try go_wp2)
        go_roundg k1
        case measure => have := HK1.out; omega
        case rel => exact ⟨(wrap64 (x5_1 + 1)), (by first | rfl | (simp; done) | (simp [*]; done)), H', ⟨by have := HK1.out; omega⟩, by repeat (first | exact Drawn0.refl _ | apply Drawn0.step)⟩
      ·rw [if_neg c6] at H
       exact absurd H (by simp)
     ·rw [if_neg c5] at H
      exact absurd H (by simp)
    ·rw [if_neg c4] at H
     have c4b0 : decide (x5_1 < (l0.length : Int)) = false := decide_eq_false c4
     clear c4
     obtain rfl := Option.some.inj H
     go_wp2
     go_ret
     exact ⟨by first | rfl | (simp; done) | (simp [*]; done), by repeat (first | exact Drawn0.refl _ | apply Drawn0.step)⟩
 ·rw [if_neg c3] at H
  have c3b0 : ((l0.length : Int) == (l1.length : Int)) = false := beq_eq_false_iff_ne.mpr c3
  have c3b1 : ((l0.length : Int) != (l1.length : Int)) = true := bne_iff_ne.mpr c3
  have c3b2 : (l0.length == l1.length) = false := by first | simpa using c3 | (simp at c3 ⊢; omega)
  obtain rfl := Option.some.inj H
  go_enter Tryd.func16, Tryd.ntmps16
  go_wp2
  go_ret
  exact ⟨by first | rfl | (simp; done) | (simp [*]; done), by repeat (first | exact Drawn0.refl _ | apply Drawn0.step)⟩

end Go.Proofs.YtmjgifhgodgghaaDoor.P
