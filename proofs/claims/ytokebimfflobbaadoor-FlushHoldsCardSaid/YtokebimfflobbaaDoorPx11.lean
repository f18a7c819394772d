-- Printed by this session's program wip/xp.py (a turned copy of the kit's printer): functions, their contracts.
import Derived.Test.YtokebimfflobbaaDoorPx0
import Derived.Test.YtokebimfflobbaaDoorPx2
import Derived.Test.YtokebimfflobbaaDoorPx8
namespace Go.Proofs.YtokebimfflobbaaDoor.P
open Go.RowKit Go.Proofs.YtokebimfflobbaaDoorW.PrintWords Go.Proofs.YtokebimfflobbaaDoorW.PrintLast Go.Proofs.YtokebimfflobbaaDoorW.PrintMore
attribute [local go_sem] max2_int min2_int max_two min_two max_three min_three max_four min_four   -- for this text's walks alone
set_option linter.unusedVariables false
set_option linter.unusedSimpArgs false

/-! ### carillonlaw19_FlushHolds: function 5 -/
mutual
def carillonlaw19_FlushHolds.l0 : Nat → List ByteArray → List Int → Bool → List (List ByteArray) → Int → Option (Bool)
 | 0, _, _, _, _, _ => none
 | k + 1, x0, x1, x5, x6, x7 => if x7 < (x1.length : Int) then (if x7 < 20 then (if 0 ≤ x7 then (if (rd x1 x7) < 0 then (if (wrap64 ((x0.length : Int) + 1)) = 0 then (none) else (if 0 ≤ (Int.tmod (wrap64 (-(wrap64 ((rd x1 x7) + 1)))) (wrap64 ((x0.length : Int) + 1))) then (if (Int.tmod (wrap64 (-(wrap64 ((rd x1 x7) + 1)))) (wrap64 ((x0.length : Int) + 1))) ≤ (x0.length : Int) then (if x6.length < 5864062014805 then (carillonlaw19_FlushHolds.l0 k x0 x1 x5 (x6 ++ [(x0.take ((Int.tmod (wrap64 (-(wrap64 ((rd x1 x7) + 1)))) (wrap64 ((x0.length : Int) + 1))) : Int).toNat)]) (wrap64 (x7 + 1))) else (none)) else (none)) else (none))) else (if (wrap64 ((x0.length : Int) + 1)) = 0 then (none) else (if 0 ≤ (Int.tmod (rd x1 x7) (wrap64 ((x0.length : Int) + 1))) then (if (Int.tmod (rd x1 x7) (wrap64 ((x0.length : Int) + 1))) ≤ (x0.length : Int) then (if x6.length < 5864062014805 then (carillonlaw19_FlushHolds.l0 k x0 x1 x5 (x6 ++ [(x0.take ((Int.tmod (rd x1 x7) (wrap64 ((x0.length : Int) + 1))) : Int).toNat)]) (wrap64 (x7 + 1))) else (none)) else (none)) else (none)))) else (none)) else ((flush_Longest.f k x6).bind fun bt379 => (if (x6.length : Int) = 0 then (if x5 = true then (some (bt379.2 == 1)) else (some false)) else (carillonlaw19_FlushHolds.l1 k x5 x6 bt379.1 bt379.2 false 0)))) else ((flush_Longest.f k x6).bind fun bt389 => (if (x6.length : Int) = 0 then (if x5 = true then (some (bt389.2 == 1)) else (some false)) else (carillonlaw19_FlushHolds.l1 k x5 x6 bt389.1 bt389.2 false 0)))
def carillonlaw19_FlushHolds.l1 : Nat → Bool → List (List ByteArray) → List ByteArray → Int → Bool → Int → Option (Bool)
 | 0, _, _, _, _, _, _ => none
 | k + 1, x5, x6, x9, x10, x11, x12 => if x12 < (x6.length : Int) then (if 0 ≤ x12 then ((flush_Prefix.f k (rd_L1 x6 x12) x9).bind fun t384 => (if t384 = true then ((flush_Common.f k (rd_L1 x6 x12) x9).bind fun t386 => (if t386 = ((rd_L1 x6 x12).length : Int) then (if x11 = true then (carillonlaw19_FlushHolds.l1 k x5 x6 x9 x10 true (wrap64 (x12 + 1))) else (carillonlaw19_FlushHolds.l1 k x5 x6 x9 x10 (((rd_L1 x6 x12).length : Int) == (x9.length : Int)) (wrap64 (x12 + 1)))) else (some false))) else (some false))) else (none)) else (if x5 = true then (if x10 = 0 then (some x11) else (some false)) else (some false))
end
def carillonlaw19_FlushHolds.f (k : Nat) (l0 : List ByteArray) (l1 : List Int) : Option (Bool) := (carillonlaw19_examples.f).bind fun t361 => (carillonlaw19_FlushHolds.l0 k l0 l1 t361 ([] : List (List ByteArray)) 0)
theorem carillonlaw19_FlushHolds.mono_l : ∀ k, (∀ y0 y1 y2 y3 y4, LeO (carillonlaw19_FlushHolds.l0 k y0 y1 y2 y3 y4) (carillonlaw19_FlushHolds.l0 (k + 1) y0 y1 y2 y3 y4)) ∧ (∀ y0 y1 y2 y3 y4 y5, LeO (carillonlaw19_FlushHolds.l1 k y0 y1 y2 y3 y4 y5) (carillonlaw19_FlushHolds.l1 (k + 1) y0 y1 y2 y3 y4 y5))
 | 0 => ⟨fun _ _ _ _ _ r h => by simp [carillonlaw19_FlushHolds.l0] at h, fun _ _ _ _ _ _ r h => by simp [carillonlaw19_FlushHolds.l1] at h⟩
 | k + 1 => by
  obtain ⟨ih0, ih1⟩ := carillonlaw19_FlushHolds.mono_l k
  refine ⟨?_, ?_⟩
  ·intro y0 y1 y2 y3 y4
   unfold carillonlaw19_FlushHolds.l0
   repeat' first
   | (with_reducible exact ih0 _ _ _ _ _)
   | (with_reducible exact ih1 _ _ _ _ _ _)
   | (with_reducible exact flush_Common.mono _ _ _)
   | (with_reducible exact flush_Longest.mono _ _)
   | (with_reducible exact flush_Prefix.mono _ _ _)
   | (with_reducible exact LeO.refl _)
   | (with_reducible exact LeO.none _)
   | (with_reducible refine LeO.ite ?_ ?_)
   | (with_reducible refine LeO.bind ?_ (fun _ => ?_))
   | exact ih0 _ _ _ _ _
   | exact ih1 _ _ _ _ _ _
   | exact flush_Common.mono _ _ _
   | exact flush_Longest.mono _ _
   | exact flush_Prefix.mono _ _ _
   | exact LeO.none _
   | refine LeO.ite ?_ ?_
   | refine LeO.bind ?_ (fun _ => ?_)
  ·intro y0 y1 y2 y3 y4 y5
   unfold carillonlaw19_FlushHolds.l1
   repeat' first
   | (with_reducible exact ih0 _ _ _ _ _)
   | (with_reducible exact ih1 _ _ _ _ _ _)
   | (with_reducible exact flush_Common.mono _ _ _)
   | (with_reducible exact flush_Longest.mono _ _)
   | (with_reducible exact flush_Prefix.mono _ _ _)
   | (with_reducible exact LeO.refl _)
   | (with_reducible exact LeO.none _)
   | (with_reducible refine LeO.ite ?_ ?_)
   | (with_reducible refine LeO.bind ?_ (fun _ => ?_))
   | exact ih0 _ _ _ _ _
   | exact ih1 _ _ _ _ _ _
   | exact flush_Common.mono _ _ _
   | exact flush_Longest.mono _ _
   | exact flush_Prefix.mono _ _ _
   | exact LeO.none _
   | refine LeO.ite ?_ ?_
   | refine LeO.bind ?_ (fun _ => ?_)
theorem carillonlaw19_FlushHolds.mono : ∀ a0 a1 k, LeO (carillonlaw19_FlushHolds.f k a0 a1) (carillonlaw19_FlushHolds.f (k + 1) a0 a1) := by
 intro a0 a1 k
 obtain ⟨ih0, ih1⟩ := carillonlaw19_FlushHolds.mono_l k
 unfold carillonlaw19_FlushHolds.f
 repeat' first
   | (with_reducible exact ih0 _ _ _ _ _)
   | (with_reducible exact ih1 _ _ _ _ _ _)
   | (with_reducible exact flush_Common.mono _ _ _)
   | (with_reducible exact flush_Longest.mono _ _)
   | (with_reducible exact flush_Prefix.mono _ _ _)
   | (with_reducible exact LeO.refl _)
   | (with_reducible exact LeO.none _)
   | (with_reducible refine LeO.ite ?_ ?_)
   | (with_reducible refine LeO.bind ?_ (fun _ => ?_))
   | exact ih0 _ _ _ _ _
   | exact ih1 _ _ _ _ _ _
   | exact flush_Common.mono _ _ _
   | exact flush_Longest.mono _ _
   | exact flush_Prefix.mono _ _ _
   | exact LeO.none _
   | refine LeO.ite ?_ ?_
   | refine LeO.bind ?_ (fun _ => ?_)
def carillonlaw19_FlushHolds.T17 : Bool × List (List Nat × List Nat) := (true, [([], []), ([], []), ([0, 1], [0, 1]), ([2], [2]), ([], []), ([3, 4], [3, 4]), ([5], [5]), ([6, 5], [6]), ([7], [7]), ([7], [7]), ([8, 9, 7], [7, 8, 9]), ([10, 7], [7, 10]), ([7], [7]), ([11, 12, 7, 7], [7, 11, 12]), ([7], [7]), ([7], [7]), ([14, 15, 7], [7, 14, 15]), ([16, 7], [7, 16]), ([17, 7], [7, 17]), ([13, 18, 7], [7, 13, 18]), ([7, 19], [7, 19])])
def carillonlaw19_FlushHolds.B17 : List Nat := [0, 0, 3, 7, 0, 31, 63, 127, 255, 255, 1023, 2047, 255, 8191, 255, 255, 49407, 114943, 246015, 524287, 1048575]
theorem carillonlaw19_FlushHolds.tab17 : rtab .any (opsOf Tryd.f5 17) = carillonlaw19_FlushHolds.T17 := by kernel_rfl
theorem carillonlaw19_FlushHolds.bits17 : waitsOk carillonlaw19_FlushHolds.T17.2 carillonlaw19_FlushHolds.B17 = true := by kernel_rfl
set_option maxHeartbeats 8000000 in
set_option maxRecDepth 100000 in
theorem carillonlaw19_FlushHolds.calls (k : Nat) (P0_ : Nat → Prop) (A0 : Option Addr) (c0 : Nat) (l0 : List ByteArray) (A1 : Option Addr) (c1 : Nat) (l1 : List Int) (r : Bool) (w : World) (hs0 : Kd.V Kd.string 9 w w.heap.size (fun k_ => P0_ k_) (.slice A0 l0.length c0) l0) (hr1 : Kd.C (Kd.int .i64) w A1 l1.length l1) (hc1 : l1.length ≤ c1) (hr_ : Aside0 (r = true)) (HT_ : TabOk w) (h : carillonlaw19_FlushHolds.f k l0 l1 = some r) :
  Calls Tryd.prog 5 #[.slice A0 l0.length c0, .slice A1 l1.length c1] w fun e w' => e = .returned (.bool r) ∧ Below w.heap.size w w' := by
 have HT := Aside0.mk HT_
 clear HT_
 have HO0 := Aside0.mk (show Kd.V Kd.string 9 w w.heap.size (fun k_ => (P0_ k_ ∨ w.heap.size ≤ k_)) (.slice A0 l0.length c0) l0 from Kd.V_mono hs0 (fun k_ hk => .inl hk))
 have HR1 := Aside0.mk hr1
 have HC1 := Aside0.mk hc1
 clear hr1 hc1
 have HB := Aside0.mk (Below.refl w.heap.size w)
 have H : ((carillonlaw19_examples.f).bind fun t361 => (carillonlaw19_FlushHolds.l0 k l0 l1 t361 ([] : List (List ByteArray)) 0)) = some r := h
 clear h
 replace H := Option.bind_eq_some_iff.mp H
 obtain ⟨t361, A30, H⟩ := H
 replace H : (carillonlaw19_FlushHolds.l0 k l0 l1 t361 ([] : List (List ByteArray)) 0) = some r := H
 have A3 := Aside0.mk A30
 clear A30
 have H' := Aside0.mk H
 clear H
 go_enter Tryd.func5, Tryd.ntmps5
 go_wp2_with (first | ((with_reducible refine gate_callee (f := 8) rfl ?_); refine goesL_ (some 13) rfl rfl Tryd.func8 (by kernel_rfl) rfl #[] rfl am ?_; (with_reducible refine (carillonlaw19_examples.calls  t361 _ tbk A3.out).mono ?_); rintro e w4 ⟨rfl, hb⟩; refine ⟨_, rfl, ?_⟩; have n0_ := Aside0.mk (Kd.V_below (by (with_reducible repeat (first | apply Kd.V_alloc | apply Kd.V_drewN | apply Kd.V_drew)); exact HO0.out) hb); have n1_ := Aside0.mk (below_step bw hb); clear HO0; clear HB; have HO0 := n0_; have HB := n1_; clear n0_ n1_; (try clear hb)))
 go_loopg [6, 7] k (fun kq v6 v7 w' => ∃ (x6_1 : List (List ByteArray)) (x7_1 : Int), v7 = .int .i64 x7_1 ∧ Aside0 (carillonlaw19_FlushHolds.l0 kq l0 l1 t361 x6_1 x7_1 = some r) ∧ Aside0 (kq ≤ k) ∧ Aside0 (Kd.V Kd.string 9 w' w.heap.size (fun k_ => (P0_ k_ ∨ w.heap.size ≤ k_) ∧ some k_ ≠ (v6 : Value).ownBlock) (.slice A0 l0.length c0) l0) ∧ Aside0 (Kd.N (Kd.slice 9 Kd.string) 23 w' w.heap.size (fun k_ => (P0_ k_ ∨ w.heap.size ≤ k_)) v6 x6_1) ∧ Aside0 (Below w.heap.size w w'))
 case atStart => exact ⟨(([] : List (List ByteArray))), (0), (by first | rfl | (simp; done) | (simp [*]; done)), H', ⟨Nat.le_refl _⟩, ⟨by (with_reducible repeat (first | apply Kd.V_alloc | apply Kd.V_drewN | apply Kd.V_drew)); exact Kd.V_mono HO0.out (fun _ hk => ⟨hk, (by simp [Value.ownBlock])⟩)⟩, ⟨by first | exact Kd.S_nil _ _ _ _ _ | exact Kd.N_nil _ _ _ _ _ | exact Kd.V_nil _ _ _ _ _ | exact Kd.Q_nil _ _ _ _ _ | exact Kd.R_nil _ _ _ _ _⟩, ⟨bw⟩⟩
 case round =>
  clear H'
  try clear c1
  try clear p2
  obtain ⟨x6_1, x7_1, rfl, HA, HK1, af, aa, HB⟩ := hrel
  cases gk with
  | zero => exact absurd HA.out (by simp [carillonlaw19_FlushHolds.l0])
  | succ k1 =>
   have H := HA.out
   clear HA
   simp only [carillonlaw19_FlushHolds.l0] at H
   by_cases c5 : x7_1 < (l1.length : Int); rotate_left
   ·rw [if_neg c5] at H
    have a8 : decide (x7_1 < (l1.length : Int)) = false := decide_eq_false c5
    clear c5
    replace H := Option.bind_eq_some_iff.mp H
    obtain ⟨⟨t389, t392⟩, A470, H⟩ := H
    replace H : (if (x6_1.length : Int) = 0 then (if t361 = true then (some (t392 == 1)) else (some false)) else (carillonlaw19_FlushHolds.l1 k1 t361 x6_1 t389 t392 false 0)) = some r := H
    have A47 := Aside0.mk A470
    clear A470
    by_cases c48 : (x6_1.length : Int) = 0
    ·rw [if_pos c48] at H
     have a5 : ((x6_1.length : Int) == 0) = true := beq_iff_eq.mpr c48
     have a6 : ((x6_1.length : Int) != 0) = false := bne_eq_false_iff_eq.mpr c48
     clear c48
     by_cases c49 : t361 = true; rotate_left
     ·replace c49 := Bool.eq_false_iff.mpr c49
      subst c49
      have H1 : (some false) = some r := by rw [if_neg (show ¬ (false = true) by decide)] at H; exact H
      clear H
      have H := H1
      clear H1
      exact absurd ((Option.some.inj H).trans hr_.out) (by decide)
     subst c49
     have H1 : (some (t392 == 1)) = some r := by rw [if_pos rfl] at H; exact H
     clear H
     have H := H1
     clear H1
     obtain rfl := Option.some.inj H
     obtain ⟨Ao50, co50, eo50⟩ := Kd.N_slice aa.out
     subst eo50
     go_wp2_with (first | ((with_reducible refine gate_callee (f := 10) rfl ?_); refine goesL_ (some 45) rfl rfl Tryd.func10 (by kernel_rfl) rfl #[.slice Ao50 x6_1.length co50] rfl am ?_; (with_reducible refine (flush_Longest.calls k1 (fun k_ => (P0_ k_ ∨ w.heap.size ≤ k_)) _ _ x6_1 t389 t392 _ ?side1 A47.out).mono ?_); (case side1 => exact Kd.N_V (aa.out)); rintro e w51 ⟨v390, rfl, ho0, hb⟩; refine ⟨_, rfl, ?_⟩; have n0_ := Aside0.mk (Kd.V_elder' (by (with_reducible repeat (first | apply Kd.V_alloc | apply Kd.V_drewN | apply Kd.V_drew)); exact af.out) (Kd.R_base ho0) hb); have n1_ := Aside0.mk (Kd.N_elder' (by (with_reducible repeat (first | apply Kd.N_alloc | apply Kd.N_drewN | apply Kd.N_drew)); exact aa.out) (Kd.R_base ho0) hb); have n2_ := Aside0.mk (Kd.R_lower (Kd.R_newM (M := fun k_ => (w.heap.size ≤ k_)) (Kd.R_mono (ok' := fun k_ => True) ho0 (fun _ hk_ => trivial)) (below_size bw) (fun k_ h_ => h_)) (below_size bw)); have n3_ := Aside0.mk (below_step bw hb); clear af; clear aa; clear HB; have af := n0_; have aa := n1_; have a7 := n2_; have HB := n3_; clear n0_ n1_ n2_ n3_; (try clear hb); (try clear ho0)))
     go_ret
     exact ⟨er, bw⟩
    rw [if_neg c48] at H
    have a5 : ((x6_1.length : Int) == 0) = false := beq_eq_false_iff_ne.mpr c48
    have a6 : ((x6_1.length : Int) != 0) = true := bne_iff_ne.mpr c48
    have c48b2 : ¬ (x6_1 = []) := fun h_ => c48 (by rw [h_]; rfl)
    have H' := Aside0.mk H
    clear H
    obtain ⟨bl, bm, eo52⟩ := Kd.N_slice aa.out
    subst eo52
    go_wp2_with (first | ((with_reducible refine gate_callee (f := 10) rfl ?_); refine goesL_ (some 45) rfl rfl Tryd.func10 (by kernel_rfl) rfl #[.slice bl x6_1.length bm] rfl am ?_; (with_reducible refine (flush_Longest.calls k1 (fun k_ => (P0_ k_ ∨ w.heap.size ≤ k_)) _ _ x6_1 t389 t392 _ ?side1 A47.out).mono ?_); (case side1 => exact Kd.N_V (aa.out)); rintro e w53 ⟨v390, rfl, ho0, hb⟩; refine ⟨_, rfl, ?_⟩; have n0_ := Aside0.mk (Kd.V_elder' (by (with_reducible repeat (first | apply Kd.V_alloc | apply Kd.V_drewN | apply Kd.V_drew)); exact af.out) (Kd.R_base ho0) hb); have n1_ := Aside0.mk (Kd.N_elder' (by (with_reducible repeat (first | apply Kd.N_alloc | apply Kd.N_drewN | apply Kd.N_drew)); exact aa.out) (Kd.R_base ho0) hb); have n2_ := Aside0.mk (Kd.R_lower (Kd.R_newM (M := fun k_ => (w.heap.size ≤ k_)) (Kd.R_mono (ok' := fun k_ => True) ho0 (fun _ hk_ => trivial)) (below_size bw) (fun k_ h_ => h_)) (below_size bw)); have n3_ := Aside0.mk (below_step bw hb); clear af; clear aa; clear HB; have af := n0_; have aa := n1_; have a7 := n2_; have HB := n3_; clear n0_ n1_ n2_ n3_; (try clear hb); (try clear ho0)))
    go_loopg [11, 12] k1 (fun kq v11 v12 w' => ∃ (x11_2 : Bool) (x12_2 : Int), v11 = .bool x11_2 ∧ v12 = .int .i64 x12_2 ∧ Aside0 (carillonlaw19_FlushHolds.l1 kq t361 x6_1 t389 t392 x11_2 x12_2 = some r) ∧ Aside0 (kq ≤ k1) ∧ Aside0 (Kd.N (Kd.slice 9 Kd.string) 23 w' w.heap.size (fun k_ => (P0_ k_ ∨ w.heap.size ≤ k_) ∧ some k_ ≠ (v390 : Value).ownBlock) (.slice bl x6_1.length bm) x6_1) ∧ Aside0 (Kd.R Kd.string 9 w' w.heap.size (fun k_ => (w.heap.size ≤ k_)) v390 t389) ∧ Aside0 (Below w.heap.size w w'))
    case atStart => exact ⟨(false), (0), (by first | rfl | (simp; done) | (simp [*]; done)), (by first | rfl | (simp; done) | (simp [*]; done)), H', ⟨Nat.le_refl _⟩, ⟨by (with_reducible repeat (first | apply Kd.N_alloc | apply Kd.N_drewN | apply Kd.N_drew)); exact aa.out⟩, ⟨by (with_reducible repeat (first | apply Kd.R_alloc | apply Kd.R_drewN | apply Kd.R_drew)); exact Kd.R_mono a7.out (fun _ hk => hk.1)⟩, ⟨bw⟩⟩
    case round =>
     clear H'
     try clear c1
     try clear p2
     try clear c3
     try clear p3
     try clear q3
     try clear hx3
     try clear c4
     try clear c5
     try clear a8
     try clear p6
     try clear c10
     try clear c12
     try clear c14
     try clear c30
     try clear ay
     try clear c31
     try clear c33
     try clear c35
     try clear az
     try clear a2
     try clear c36
     try clear c38
     try clear p38
     try clear q38
     try clear hx38
     try clear c45
     try clear c46
     try clear a3
     try clear a4
     try clear c48
     try clear a5
     try clear a6
     try clear c48b2
     try clear c49
     try clear ac
     try clear ad
     try clear ae
     try clear ai
     try clear p383
     try clear p385
     try clear p387
     try clear p388
     try clear q383
     try clear q385
     try clear q387
     try clear q388
     obtain ⟨x11_2, x12_2, rfl, rfl, HA, HK2, aa, ab, HB⟩ := hrel
     cases gk with
     | zero => exact absurd HA.out (by simp [carillonlaw19_FlushHolds.l1])
     | succ k2 =>
      have H := HA.out
      clear HA
      simp only [carillonlaw19_FlushHolds.l1] at H
      by_cases c54 : x12_2 < (x6_1.length : Int); rotate_left
      ·rw [if_neg c54] at H
       have c54b0 : decide (x12_2 < (x6_1.length : Int)) = false := decide_eq_false c54
       clear c54
       by_cases c69 : t361 = true; rotate_left
       ·replace c69 := Bool.eq_false_iff.mpr c69
        subst c69
        have H1 : (some false) = some r := by rw [if_neg (show ¬ (false = true) by decide)] at H; exact H
        clear H
        have H := H1
        clear H1
        exact absurd ((Option.some.inj H).trans hr_.out) (by decide)
       subst c69
       have H1 : (if t392 = 0 then (some x11_2) else (some false)) = some r := by rw [if_pos rfl] at H; exact H
       clear H
       have H := H1
       clear H1
       by_cases c70 : t392 = 0; rotate_left
       ·rw [if_neg c70] at H
        have c70b0 : (t392 == 0) = false := beq_eq_false_iff_ne.mpr c70
        have c70b1 : (t392 != 0) = true := bne_iff_ne.mpr c70
        exact absurd ((Option.some.inj H).trans hr_.out) (by decide)
       rw [if_pos c70] at H
       have c70b0 : (t392 == 0) = true := beq_iff_eq.mpr c70
       have c70b1 : (t392 != 0) = false := bne_eq_false_iff_eq.mpr c70
       clear c70
       obtain rfl := Option.some.inj H
       go_wp2
       go_ret
       exact ⟨er, bw⟩
      rw [if_pos c54] at H
      have c54b0 : decide (x12_2 < (x6_1.length : Int)) = true := decide_eq_true c54
      clear c54
      by_cases c55 : 0 ≤ x12_2; rotate_left
      ·rw [if_neg c55] at H
       exact absurd H (by simp)
      rw [if_pos c55] at H
      have c55b0 : decide (0 ≤ x12_2) = true := decide_eq_true c55
      clear c55
      replace H := Option.bind_eq_some_iff.mp H
      obtain ⟨t384, A560, H⟩ := H
      replace H : (if t384 = true then ((flush_Common.f k2 (rd_L1 x6_1 x12_2) t389).bind fun t386 => (if t386 = ((rd_L1 x6_1 x12_2).length : Int) then (if x11_2 = true then (carillonlaw19_FlushHolds.l1 k2 t361 x6_1 t389 t392 true (wrap64 (x12_2 + 1))) else (carillonlaw19_FlushHolds.l1 k2 t361 x6_1 t389 t392 (((rd_L1 x6_1 x12_2).length : Int) == (t389.length : Int)) (wrap64 (x12_2 + 1)))) else (some false))) else (some false)) = some r := H
      have A56 := Aside0.mk A560
      clear A560
      by_cases c57 : t384 = true; rotate_left
      ·replace c57 := Bool.eq_false_iff.mpr c57
       subst c57
       have H1 : (some false) = some r := by rw [if_neg (show ¬ (false = true) by decide)] at H; exact H
       clear H
       have H := H1
       clear H1
       exact absurd ((Option.some.inj H).trans hr_.out) (by decide)
      subst c57
      have H1 : ((flush_Common.f k2 (rd_L1 x6_1 x12_2) t389).bind fun t386 => (if t386 = ((rd_L1 x6_1 x12_2).length : Int) then (if x11_2 = true then (carillonlaw19_FlushHolds.l1 k2 t361 x6_1 t389 t392 true (wrap64 (x12_2 + 1))) else (carillonlaw19_FlushHolds.l1 k2 t361 x6_1 t389 t392 (((rd_L1 x6_1 x12_2).length : Int) == (t389.length : Int)) (wrap64 (x12_2 + 1)))) else (some false))) = some r := by rw [if_pos rfl] at H; exact H
      clear H
      have H := H1
      clear H1
      replace H := Option.bind_eq_some_iff.mp H
      obtain ⟨t386, A580, H⟩ := H
      replace H : (if t386 = ((rd_L1 x6_1 x12_2).length : Int) then (if x11_2 = true then (carillonlaw19_FlushHolds.l1 k2 t361 x6_1 t389 t392 true (wrap64 (x12_2 + 1))) else (carillonlaw19_FlushHolds.l1 k2 t361 x6_1 t389 t392 (((rd_L1 x6_1 x12_2).length : Int) == (t389.length : Int)) (wrap64 (x12_2 + 1)))) else (some false)) = some r := H
      have A58 := Aside0.mk A580
      clear A580
      by_cases c59 : t386 = ((rd_L1 x6_1 x12_2).length : Int); rotate_left
      ·rw [if_neg c59] at H
       have c59b0 : (t386 == ((rd_L1 x6_1 x12_2).length : Int)) = false := beq_eq_false_iff_ne.mpr c59
       have c59b1 : (t386 != ((rd_L1 x6_1 x12_2).length : Int)) = true := bne_iff_ne.mpr c59
       exact absurd ((Option.some.inj H).trans hr_.out) (by decide)
      rw [if_pos c59] at H
      have c59b0 : (t386 == ((rd_L1 x6_1 x12_2).length : Int)) = true := beq_iff_eq.mpr c59
      have c59b1 : (t386 != ((rd_L1 x6_1 x12_2).length : Int)) = false := bne_eq_false_iff_eq.mpr c59
      clear c59
      have HhZ := Aside0.mk H
      clear H
      try go_wp2
      have n0_ := Aside0.mk (Kd.N_drew aa.out)
      have n1_ := Aside0.mk (Kd.R_drew ab.out)
      have n2_ := Aside0.mk (below_drew1 HB.out)
      clear aa
      clear ab
      clear HB
      have aa := n0_
      have ab := n1_
      have HB := n2_
      clear n0_ n1_ n2_
      have p383 : 0 ≤ (x12_2 : Int) := od
      have q383 : x12_2 < (x6_1.length : Int) := od
      obtain ⟨ah, A383_0, c383_0, e383, ac, hl383_0, hi383_0⟩ := at_L1 (Kd.N_reads' aa.out).2.2 x12_2 p383 q383
      cases e383
      obtain ⟨ce383, hce383, hMe383, hcc383⟩ := Kd.N_get aa.out [] x12_2 p383 (by first | exact q383 | exact od | (have e_ := (Kd.N_reads' aa.out).1; omega))
      obtain ⟨ua383_0, uc383_0, rfl, ul383_0, ge383_0⟩ := Kd.FK_slice_open hMe383
      have hv383_0 := hcc383 0 _ rfl
      rw [Nat.add_zero, show ((Kd.slice 9 Kd.string)).sz = 1 from rfl, Nat.mul_one] at hv383_0
      replace hv383_0 := Option.some.inj (hv383_0.symm.trans ac)
      injection hv383_0 with hva_ hvn_ hvc_
      rw [hva_] at ge383_0
      rw [hvc_] at ul383_0
      have HL383_0 := Aside0.mk (show Kd.V Kd.string 9 _ w.heap.size _ _ (rd_L1 x6_1 x12_2) from Kd.V_mk ul383_0 ge383_0)
      clear hva_ hvn_ hvc_ ge383_0 ul383_0
      clear hcc383 hce383
      have HR383_0 := Aside0.mk hi383_0
      have HC383_0 := Aside0.mk hl383_0
      clear hi383_0 hl383_0
      replace p383 := eq_true p383
      replace q383 := eq_true q383
      obtain ⟨bn, bo, bp⟩ := Kd.R_slice ab.out
      (first | subst bp | (injection bp with f1_ f2_ f3_; have f4_ := f1_.symm; have f5_ := f3_.symm; clear f1_ f2_ f3_; subst f4_; subst f5_))
      have p385 : 0 ≤ (x12_2 : Int) := od
      have q385 : x12_2 < (x6_1.length : Int) := od
      obtain ⟨ao, A385_0, c385_0, e385, ad, hl385_0, hi385_0⟩ := at_L1 (Kd.N_reads' aa.out).2.2 x12_2 p385 q385
      obtain rfl : ah = ao := (by injection e385)
      obtain ⟨ce385, hce385, hMe385, hcc385⟩ := Kd.N_get aa.out [] x12_2 p385 (by first | exact q385 | exact od | (have e_ := (Kd.N_reads' aa.out).1; omega))
      obtain ⟨ua385_0, uc385_0, rfl, ul385_0, ge385_0⟩ := Kd.FK_slice_open hMe385
      have hv385_0 := hcc385 0 _ rfl
      rw [Nat.add_zero, show ((Kd.slice 9 Kd.string)).sz = 1 from rfl, Nat.mul_one] at hv385_0
      replace hv385_0 := Option.some.inj (hv385_0.symm.trans ad)
      injection hv385_0 with hva_ hvn_ hvc_
      rw [hva_] at ge385_0
      rw [hvc_] at ul385_0
      have HL385_0 := Aside0.mk (show Kd.V Kd.string 9 _ w.heap.size _ _ (rd_L1 x6_1 x12_2) from Kd.V_mk ul385_0 ge385_0)
      clear hva_ hvn_ hvc_ ge385_0 ul385_0
      clear hcc385 hce385
      have HR385_0 := Aside0.mk hi385_0
      have HC385_0 := Aside0.mk hl385_0
      clear hi385_0 hl385_0
      replace p385 := eq_true p385
      replace q385 := eq_true q385
      have p387 : 0 ≤ (x12_2 : Int) := od
      have q387 : x12_2 < (x6_1.length : Int) := od
      obtain ⟨ap, A387_0, c387_0, e387, ae, hl387_0, hi387_0⟩ := at_L1 (Kd.N_reads' aa.out).2.2 x12_2 p387 q387
      obtain rfl : ah = ap := (by injection e387)
      obtain ⟨ce387, hce387, hMe387, hcc387⟩ := Kd.N_get aa.out [] x12_2 p387 (by first | exact q387 | exact od | (have e_ := (Kd.N_reads' aa.out).1; omega))
      obtain ⟨ua387_0, uc387_0, rfl, ul387_0, ge387_0⟩ := Kd.FK_slice_open hMe387
      have hv387_0 := hcc387 0 _ rfl
      rw [Nat.add_zero, show ((Kd.slice 9 Kd.string)).sz = 1 from rfl, Nat.mul_one] at hv387_0
      replace hv387_0 := Option.some.inj (hv387_0.symm.trans ae)
      injection hv387_0 with hva_ hvn_ hvc_
      rw [hva_] at ge387_0
      rw [hvc_] at ul387_0
      have HL387_0 := Aside0.mk (show Kd.V Kd.string 9 _ w.heap.size _ _ (rd_L1 x6_1 x12_2) from Kd.V_mk ul387_0 ge387_0)
      clear hva_ hvn_ hvc_ ge387_0 ul387_0
      clear hcc387 hce387
      have HR387_0 := Aside0.mk hi387_0
      have HC387_0 := Aside0.mk hl387_0
      clear hi387_0 hl387_0
      replace p387 := eq_true p387
      replace q387 := eq_true q387
      obtain ⟨rfl, rfl⟩ : A383_0 = A385_0 ∧ c383_0 = c385_0 := by have q_ := Option.some.inj (ac.symm.trans ad); injection q_ with e1_ _ e3_; exact ⟨e1_, e3_⟩
      obtain ⟨rfl, rfl⟩ : A383_0 = A387_0 ∧ c383_0 = c387_0 := by have q_ := Option.some.inj (ac.symm.trans ae); injection q_ with e1_ _ e3_; exact ⟨e1_, e3_⟩
      refine start_ (n := 21) (S := fun w' => w'.cell? (ah.add (x12_2).toNat) = some (.slice A383_0 (rd_L1 x6_1 x12_2).length c383_0) ∧ w'.cell? (ah.add (x12_2).toNat) = some (.slice A383_0 (rd_L1 x6_1 x12_2).length c383_0) ∧ w'.cell? (ah.add (x12_2).toNat) = some (.slice A383_0 (rd_L1 x6_1 x12_2).length c383_0)) (ds := []) (bz 21 0) (by kernel_rfl) rfl rfl ⟨ac, ad, ae⟩ (fun hHeld => ?_); refine with_tabW carillonlaw19_FlushHolds.tab17 carillonlaw19_FlushHolds.bits17 (fun HT_ HW_ => ?_)
      generalize wr.drew = w61 at aa ab HB HL383_0 HL385_0 HL387_0 HR383_0 HR385_0 HR387_0 ac ad ae hHeld ⊢
      refine pu_ 0 (some 62) (bz 21 1) HT_.out ?_
      refine pu_ 1 (some 63) (bz 21 3) HT_.out ?_
      refine pu_ 2 (some 64) (bz 21 7) HT_.out ?_
      refine pu_ 4 (some 66) (bz 21 23) HT_.out ?_
      refine take_ (i := 3) (N := some 65) (v := ?_) (a' := ?_) (bz 21 31) rfl rfl (take_ofW HT_.out HW_.out (by kernel_rfl)) (fun _ _ _ h => h) (Or.inl ⟨by rfl, ?_⟩) hHeld ?_ ?_
      rotate_left
      ·rintro w' ⟨s0, s1, s2⟩
       go_simp
       with_reducible rfl
      rotate_left
      ·simp only [Act.put, sl1, sl2, sl3, i64_w, i32_w]
       rfl
      refine one_ (i := 5) (N := some 67) (bz 21 63) rfl rfl (one_of HT_.out (by kernel_rfl)) (by decide) (fun K hK => ?_)
      refine goes_ Tryd.func14 (by kernel_rfl) rfl #[.slice A383_0 (rd_L1 x6_1 x12_2).length c383_0, .slice bn t389.length bo] (by rfl) rfl rfl am ?_
      with_reducible refine (flush_Prefix.calls k2 _ _ (rd_L1 x6_1 x12_2) _ _ t389 true _ ?side1 ?side2 ?side3 ?side4 A56.out).mono ?_
      (case side1 => repeat (first | exact (by repeat (first | (with_reducible exact HR383_0.out) | (with_reducible refine Kd.C_alloc ?_ _) | (with_reducible refine Kd.C_drewN ?_ _) | (with_reducible refine Kd.C_drew ?_) | exact HR383_0.out)) | (with_reducible refine Kd.C_alloc ?_ _) | (with_reducible refine Kd.C_drewN ?_ _) | (with_reducible refine Kd.C_drew ?_)))
      (case side2 => exact HC383_0.out)
      (case side3 => repeat (first | exact (Kd.R_reads' ab.out).2.2 | (with_reducible refine Kd.C_alloc ?_ _) | (with_reducible refine Kd.C_drewN ?_ _) | (with_reducible refine Kd.C_drew ?_)))
      (case side4 => exact (Kd.R_reads' ab.out).2.1)
      rintro e w63 ⟨rfl, hb⟩
      have HS0_ := (hb.cell (World.block_lt_of_cell? _ _ (hHeld.1))).trans (hHeld.1)
      have HS1_ := (hb.cell (World.block_lt_of_cell? _ _ (hHeld.2.1))).trans (hHeld.2.1)
      have HS2_ := (hb.cell (World.block_lt_of_cell? _ _ (hHeld.2.2))).trans (hHeld.2.2)
      refine ⟨_, rfl, ?_⟩
      have n0_ := Aside0.mk (Kd.N_below (by (with_reducible repeat (first | apply Kd.N_alloc | apply Kd.N_drewN | apply Kd.N_drew)); exact aa.out) hb)
      have n1_ := Aside0.mk (Kd.R_below (by (with_reducible repeat (first | apply Kd.R_alloc | apply Kd.R_drewN | apply Kd.R_drew)); exact ab.out) hb)
      have n2_ := Aside0.mk (Kd.V_below (by (with_reducible repeat (first | apply Kd.V_alloc | apply Kd.V_drewN | apply Kd.V_drew)); exact HL383_0.out) hb)
      have n3_ := Aside0.mk (Kd.C_below (by repeat (first | (with_reducible exact HR383_0.out) | (with_reducible refine Kd.C_alloc ?_ _) | (with_reducible refine Kd.C_drewN ?_ _) | (with_reducible refine Kd.C_drew ?_) | exact HR383_0.out)) hb)
      have n4_ := Aside0.mk (below_step bw hb)
      clear aa
      clear ab
      clear HL383_0
      clear HR383_0
      clear HB
      have aa := n0_
      have ab := n1_
      have HL383_0 := n2_
      have HR383_0 := n3_
      have HB := n4_
      clear n0_ n1_ n2_ n3_ n4_
      (try clear hb)
      (try clear hb2)
      (try clear hk)
      (try clear hi)
      refine hK.out _ _ ⟨HS0_, HS1_, HS2_⟩ (fun hHeld => ?_)
      clear hK K
      refine norm_ (a' := ?_) ?_ ?_
      rotate_left
      ·show Act.put _ (some 67) _ = _
       simp only [Act.put, sl1, sl2, sl3, i64_w, i32_w]
       rfl
      refine pu_ 6 (some 68) (bz 21 127) HT_.out ?_
      refine pu_ 7 (some 69) (bz 21 255) HT_.out ?_
      refine pu_ 8 (some 70) (bz 21 511) HT_.out ?_
      refine pu_ 9 (some 71) (bz 21 1023) HT_.out ?_
      refine pu_ 10 (some 72) (bz 21 2047) HT_.out ?_
      refine pu_ 12 (some 74) (bz 21 6143) HT_.out ?_
      refine pu_ 14 (some 76) (bz 21 22527) HT_.out ?_
      refine pu_ 15 (some 77) (bz 21 55295) HT_.out ?_
      refine pu_ 16 (some 78) (bz 21 120831) HT_.out ?_
      refine take_ (i := 11) (N := some 73) (v := ?_) (a' := ?_) (bz 21 122879) rfl rfl (take_ofW HT_.out HW_.out (by kernel_rfl)) (fun _ _ _ h => h) (Or.inl ⟨by rfl, ?_⟩) hHeld ?_ ?_
      rotate_left
      ·rintro w' ⟨s0, s1, s2⟩
       go_simp
       with_reducible rfl
      rotate_left
      ·simp only [Act.put, sl1, sl2, sl3, i64_w, i32_w]
       rfl
      refine take_ (i := 17) (N := some 79) (v := ?_) (a' := ?_) (bz 21 253951) rfl rfl (take_ofW HT_.out HW_.out (by kernel_rfl)) (fun _ _ _ h => h) (Or.inl ⟨by rfl, ?_⟩) hHeld ?_ ?_
      rotate_left
      ·rintro w' ⟨s0, s1, s2⟩
       go_simp
       with_reducible rfl
      rotate_left
      ·simp only [Act.put, sl1, sl2, sl3, i64_w, i32_w]
       rfl
      refine pu_ 18 (some 80) (bz 21 516095) HT_.out ?_
      refine one_ (i := 13) (N := some 75) (bz 21 524287) rfl rfl (one_of HT_.out (by kernel_rfl)) (by decide) (fun K hK => ?_)
      refine goes_ Tryd.func12 (by kernel_rfl) rfl #[.slice A383_0 (rd_L1 x6_1 x12_2).length c383_0, .slice bn t389.length bo] (by rfl) rfl rfl am ?_
      with_reducible refine (flush_Common.calls k2 _ _ (rd_L1 x6_1 x12_2) _ _ t389 t386 _ ?side1 ?side2 ?side3 ?side4 A58.out).mono ?_
      (case side1 => repeat (first | exact (by repeat (first | (with_reducible exact HR383_0.out) | (with_reducible refine Kd.C_alloc ?_ _) | (with_reducible refine Kd.C_drewN ?_ _) | (with_reducible refine Kd.C_drew ?_) | exact HR383_0.out)) | (with_reducible refine Kd.C_alloc ?_ _) | (with_reducible refine Kd.C_drewN ?_ _) | (with_reducible refine Kd.C_drew ?_)))
      (case side2 => exact HC385_0.out)
      (case side3 => repeat (first | exact (Kd.R_reads' ab.out).2.2 | (with_reducible refine Kd.C_alloc ?_ _) | (with_reducible refine Kd.C_drewN ?_ _) | (with_reducible refine Kd.C_drew ?_)))
      (case side4 => exact (Kd.R_reads' ab.out).2.1)
      rintro e w64 ⟨rfl, hb⟩
      have HS0_ := (hb.cell (World.block_lt_of_cell? _ _ (hHeld.1))).trans (hHeld.1)
      have HS1_ := (hb.cell (World.block_lt_of_cell? _ _ (hHeld.2.1))).trans (hHeld.2.1)
      have HS2_ := (hb.cell (World.block_lt_of_cell? _ _ (hHeld.2.2))).trans (hHeld.2.2)
      refine ⟨_, rfl, ?_⟩
      have n0_ := Aside0.mk (Kd.N_below (by (with_reducible repeat (first | apply Kd.N_alloc | apply Kd.N_drewN | apply Kd.N_drew)); exact aa.out) hb)
      have n1_ := Aside0.mk (Kd.R_below (by (with_reducible repeat (first | apply Kd.R_alloc | apply Kd.R_drewN | apply Kd.R_drew)); exact ab.out) hb)
      have n2_ := Aside0.mk (Kd.V_below (by (with_reducible repeat (first | apply Kd.V_alloc | apply Kd.V_drewN | apply Kd.V_drew)); exact HL383_0.out) hb)
      have n3_ := Aside0.mk (Kd.V_below (by (with_reducible repeat (first | apply Kd.V_alloc | apply Kd.V_drewN | apply Kd.V_drew)); exact HL383_0.out) hb)
      have n4_ := Aside0.mk (Kd.C_below (by repeat (first | (with_reducible exact HR383_0.out) | (with_reducible refine Kd.C_alloc ?_ _) | (with_reducible refine Kd.C_drewN ?_ _) | (with_reducible refine Kd.C_drew ?_) | exact HR383_0.out)) hb)
      have n5_ := Aside0.mk (Kd.C_below (by repeat (first | (with_reducible exact HR383_0.out) | (with_reducible refine Kd.C_alloc ?_ _) | (with_reducible refine Kd.C_drewN ?_ _) | (with_reducible refine Kd.C_drew ?_) | exact HR383_0.out)) hb)
      have n6_ := Aside0.mk (below_step bw hb)
      clear aa
      clear ab
      clear HL383_0
      clear HL385_0
      clear HR383_0
      clear HR385_0
      clear HB
      have aa := n0_
      have ab := n1_
      have HL383_0 := n2_
      have HL385_0 := n3_
      have HR383_0 := n4_
      have HR385_0 := n5_
      have HB := n6_
      clear n0_ n1_ n2_ n3_ n4_ n5_ n6_
      (try clear hb)
      (try clear hb2)
      (try clear hk)
      (try clear hi)
      refine hK.out _ _ ⟨HS0_, HS1_, HS2_⟩ (fun hHeld => ?_)
      clear hK K
      refine norm_ (a' := ?_) ?_ ?_
      rotate_left
      ·show Act.put _ (some 75) _ = _
       simp only [Act.put, sl1, sl2, sl3, i64_w, i32_w]
       rfl
      refine pu_ 19 (some 81) (bz 21 1048575) HT_.out ?_
      refine pu_ 20 (some 82) (bz 21 2097151) HT_.out ?_
      refine done_ (done_of HT_.out (by kernel_rfl)) ?_
      have H := HhZ.out
      clear HhZ
      by_cases c60 : x11_2 = true
      ·subst c60
       have H1 : (carillonlaw19_FlushHolds.l1 k2 t361 x6_1 t389 t392 true (wrap64 (x12_2 + 1))) = some r := by rw [if_pos rfl] at H; exact H
       clear H
       have H := H1
       clear H1
       have H' := Aside0.mk H
       clear H
       try go_wp2
       go_roundg k2
       case measure => have := HK1.out; have := HK2.out; omega
       case rel => exact ⟨(true), (wrap64 (x12_2 + 1)), (by first | rfl | (simp; done) | (simp [*]; done)), (by first | rfl | (simp; done) | (simp [*]; done)), H', ⟨by have := HK1.out; have := HK2.out; omega⟩, ⟨by (with_reducible repeat (first | apply Kd.N_alloc | apply Kd.N_drewN | apply Kd.N_drew)); exact aa.out⟩, ⟨by (with_reducible repeat (first | apply Kd.R_alloc | apply Kd.R_drewN | apply Kd.R_drew)); exact ab.out⟩, ⟨bw⟩⟩
      replace c60 := Bool.eq_false_iff.mpr c60
      subst c60
      have H1 : (carillonlaw19_FlushHolds.l1 k2 t361 x6_1 t389 t392 (((rd_L1 x6_1 x12_2).length : Int) == (t389.length : Int)) (wrap64 (x12_2 + 1))) = some r := by rw [if_neg (show ¬ (false = true) by decide)] at H; exact H
      clear H
      have H := H1
      clear H1
      have H' := Aside0.mk H
      clear H
      have p388 : 0 ≤ (x12_2 : Int) := od
      have q388 : x12_2 < (x6_1.length : Int) := od
      obtain ⟨aq, A388_0, c388_0, e388, ai, hl388_0, hi388_0⟩ := at_L1 (Kd.N_reads' aa.out).2.2 x12_2 p388 q388
      obtain rfl : ah = aq := (by injection e388)
      obtain ⟨ce388, hce388, hMe388, hcc388⟩ := Kd.N_get aa.out [] x12_2 p388 (by first | exact q388 | exact od | (have e_ := (Kd.N_reads' aa.out).1; omega))
      obtain ⟨ua388_0, uc388_0, rfl, ul388_0, ge388_0⟩ := Kd.FK_slice_open hMe388
      have hv388_0 := hcc388 0 _ rfl
      rw [Nat.add_zero, show ((Kd.slice 9 Kd.string)).sz = 1 from rfl, Nat.mul_one] at hv388_0
      replace hv388_0 := Option.some.inj (hv388_0.symm.trans ai)
      injection hv388_0 with hva_ hvn_ hvc_
      rw [hva_] at ge388_0
      rw [hvc_] at ul388_0
      have HL388_0 := Aside0.mk (show Kd.V Kd.string 9 _ w.heap.size _ _ (rd_L1 x6_1 x12_2) from Kd.V_mk ul388_0 ge388_0)
      clear hva_ hvn_ hvc_ ge388_0 ul388_0
      clear hcc388 hce388
      have HR388_0 := Aside0.mk hi388_0
      have HC388_0 := Aside0.mk hl388_0
      clear hi388_0 hl388_0
      replace p388 := eq_true p388
      replace q388 := eq_true q388
      try go_wp2
      go_roundg k2
      case measure => have := HK1.out; have := HK2.out; omega
      case rel => exact ⟨((((rd_L1 x6_1 x12_2).length : Int) == (t389.length : Int))), (wrap64 (x12_2 + 1)), (by first | rfl | (simp; done) | (simp [*]; done)), (by first | rfl | (simp; done) | (simp [*]; done)), H', ⟨by have := HK1.out; have := HK2.out; omega⟩, ⟨by (with_reducible repeat (first | apply Kd.N_alloc | apply Kd.N_drewN | apply Kd.N_drew)); exact aa.out⟩, ⟨by (with_reducible repeat (first | apply Kd.R_alloc | apply Kd.R_drewN | apply Kd.R_drew)); exact ab.out⟩, ⟨bw⟩⟩
   rw [if_pos c5] at H
   have a8 : decide (x7_1 < (l1.length : Int)) = true := decide_eq_true c5
   clear c5
   by_cases c6 : x7_1 < 20
   ·rw [if_pos c6] at H
    have bb : decide (x7_1 < 20) = true := decide_eq_true c6
    clear c6
    by_cases c7 : 0 ≤ x7_1; rotate_left
    ·rw [if_neg c7] at H
     exact absurd H (by simp)
    rw [if_pos c7] at H
    have c7b0 : decide (0 ≤ x7_1) = true := decide_eq_true c7
    clear c7
    by_cases c8 : (rd l1 x7_1) < 0; rotate_left
    ·rw [if_neg c8] at H
     have bc : decide ((rd l1 x7_1) < 0) = false := decide_eq_false c8
     clear c8
     by_cases c16 : (wrap64 ((l0.length : Int) + 1)) = 0
     ·rw [if_pos c16] at H
      exact absurd H (by simp)
     rw [if_neg c16] at H
     have c16b0 : ((wrap64 ((l0.length : Int) + 1)) == 0) = false := beq_eq_false_iff_ne.mpr c16
     have c16b1 : ((wrap64 ((l0.length : Int) + 1)) != 0) = true := bne_iff_ne.mpr c16
     obtain ⟨ji17, hji17⟩ : ∃ j_ : Int, (Int.tmod (rd l1 x7_1) (wrap64 ((l0.length : Int) + 1))) = j_ := ⟨_, rfl⟩
     replace H : (if 0 ≤ (ji17) then (if (ji17) ≤ (l0.length : Int) then (if x6_1.length < 5864062014805 then (carillonlaw19_FlushHolds.l0 k1 l0 l1 t361 (x6_1 ++ [(l0.take ((ji17) : Int).toNat)]) (wrap64 (x7_1 + 1))) else (none)) else (none)) else (none)) = some r := by first | (rw [hji17] at H; exact H) | (simp only [hji17] at H ⊢; exact H)
     by_cases c18 : 0 ≤ (ji17); rotate_left
     ·rw [if_neg c18] at H
      exact absurd H (by simp)
     rw [if_pos c18] at H
     have c18b0 := eq_true c18
     have c18b1 : decide (0 ≤ (ji17)) = true := decide_eq_true c18
     clear c18
     by_cases c19 : (ji17) ≤ (l0.length : Int); rotate_left
     ·rw [if_neg c19] at H
      exact absurd H (by simp)
     rw [if_pos c19] at H
     have c19b0 := eq_true c19
     have c19b1 : decide ((ji17) ≤ (l0.length : Int)) = true := decide_eq_true c19
     clear c19
     obtain ⟨y371, hy371⟩ : ∃ y_ : List ByteArray, y_ = (l0.take ((ji17) : Int).toNat) := ⟨_, rfl⟩
     replace H : (if x6_1.length < 5864062014805 then (carillonlaw19_FlushHolds.l0 k1 l0 l1 t361 (x6_1 ++ [y371]) (wrap64 (x7_1 + 1))) else (none)) = some r := by first | (rw [hy371]; with_reducible exact H) | (have H2_ := (Option.bind_some _ _).symm.trans H; rw [hy371]; with_reducible exact H2_) | (have H2_ := (Option.bind_some _ _).symm.trans H; with_reducible exact H2_) | with_reducible exact H | (rw [hy371]; exact H) | exact H
     have Ny371 := Aside0.mk hy371
     clear hy371
     by_cases c20 : x6_1.length < 5864062014805; rotate_left
     ·rw [if_neg c20] at H
      exact absurd H (by simp)
     rw [if_pos c20] at H
     have LMc20 := Aside0.mk c20
     clear c20
     obtain ⟨y376, hy376⟩ : ∃ y_ : List (List ByteArray), y_ = (x6_1 ++ [y371]) := ⟨_, rfl⟩
     replace H : (carillonlaw19_FlushHolds.l0 k1 l0 l1 t361 y376 (wrap64 (x7_1 + 1))) = some r := by first | (rw [hy376]; with_reducible exact H) | (have H2_ := (Option.bind_some _ _).symm.trans H; rw [hy376]; with_reducible exact H2_) | (have H2_ := (Option.bind_some _ _).symm.trans H; with_reducible exact H2_) | with_reducible exact H | (rw [hy376]; exact H) | exact H
     have Ny376 := Aside0.mk hy376
     clear hy376
     have H' := Aside0.mk H
     clear H
     have p362 : 0 ≤ (x7_1 : Int) := od
     have q362 : x7_1 < (l1.length : Int) := od
     obtain ⟨ad362, e362, ag⟩ := Kd.at_int HR1.out x7_1 p362 q362
     cases e362
     replace ag := (HB.out.cell (World.block_lt_of_cell? w _ ag)).trans ag
     replace p362 := eq_true p362
     replace q362 := eq_true q362
     have q21 : ((ji17) : Int) ≤ ((l0.length : Int) : Int) := od
     obtain ⟨i021, au, _, hsz21, _⟩ := info_parts info9
     have an : l0.length ≤ c0 := (Kd.V_reads' af.out).2.1
     have be : Kd.F Kd.string _ _ A0 l0.length l0 := (Kd.V_at (base := w.heap.size) af.out).2.2
     have hcut21 := cut_to (P := Tryd.prog) 23 9 .i64 Tryd.underlying23 au A0 l0.length c0 (ji17) (od) q21 an
     have ba := Kd.F_take (m := ((ji17) : Int).toNat) be (by omega)
     have hy21 : y371.length = ((ji17) : Int).toNat := (by rw [Ny371.out, List.length_take]; omega)
     rw [← Ny371.out] at ba
     rw [← hy21] at hcut21
     have ak := Aside0.mk (show Kd.V Kd.string 9 _ w.heap.size _ (.slice A0 y371.length c0) y371 from Kd.V_mk (by omega) ba)
     have HC375 := Aside0.mk (show y371.length ≤ c0 from by omega)
     clear ba be an au hsz21
     have KY21 := Aside0.mk hy21
     clear hy21
     replace q21 := eq_true q21
     go_wp2_with (first | ((with_reducible refine gate_builtin (b := .append) (xs := #[.tmp 33, .tmp 41]) rfl ?_); (try (refine gate_guard (by rfl) ?_; dsimp only)); at_builtin; refine Kd.N_append (Kd.slice 9 Kd.string) (w0 := w) w.heap.size rfl (.tmp 33) (.tmp 41) 22 23 (.slice none 0 0) 24 rfl Tryd.underlying22 info23 rfl (by decide) (by omega) u6 x6_1 y371 [.slice A0 y371.length c0] (fun k_ => (P0_ k_ ∨ w.heap.size ≤ k_)) (fun k_ => ((fun k_ => (P0_ k_ ∨ w.heap.size ≤ k_))) k_ ∧ some k_ ≠ (u6 : Value).ownBlock) rfl rfl ?aP (fun _ hk => hk) ?aF ?aO ?aB ?aS ?aL ?_; (case aP => exact (Kd.FK_slice_mk (Kd.V_reads' (Kd.V_mono (ok' := (fun k_ => ((fun k_ => (P0_ k_ ∨ w.heap.size ≤ k_))) k_ ∧ some k_ ≠ (u6 : Value).ownBlock)) (ak.out) (fun k_ hk => ⟨hk.1, hk.2⟩))).2.1 (Kd.V_F (Kd.V_mono (ok' := (fun k_ => ((fun k_ => (P0_ k_ ∨ w.heap.size ≤ k_))) k_ ∧ some k_ ≠ (u6 : Value).ownBlock)) (ak.out) (fun k_ hk => ⟨hk.1, hk.2⟩))))); (case aB => exact bw); (case aF => exact (fun k_ hk => (.inr (Nat.le_trans (below_size bw) hk)))); (case aO => exact (by (with_reducible repeat (first | apply Kd.N_alloc | apply Kd.N_drewN | apply Kd.N_drew)); exact aa.out)); (case aS => exact (below_size bw)); (case aL => have := LMc20.out; omega); intro v377 w22 ho hb hg hat; rw [← Ny376.out] at ho; have n0_ := Aside0.mk (Kd.V_afterv (ok := (fun k_ => (P0_ k_ ∨ w.heap.size ≤ k_))) (by (with_reducible repeat (first | apply Kd.V_alloc | apply Kd.V_drewN | apply Kd.V_drew)); exact af.out) hg hat); have n1_ := Aside0.mk (Kd.V_afterv (ok := (fun k_ => (P0_ k_ ∨ w.heap.size ≤ k_))) (by (with_reducible repeat (first | apply Kd.V_alloc | apply Kd.V_drewN | apply Kd.V_drew)); exact ak.out) hg hat); have n2_ := Aside0.mk (hb); have n3_ := Aside0.mk (ho); clear af; clear ak; clear HB; clear aa; have af := n0_; have ak := n1_; have HB := n2_; have HO378 := n3_; clear n0_ n1_ n2_ n3_; clear ho hb hg hat))
     go_roundg k1
     case measure => have := HK1.out; omega
     case rel => (try rw [hji17]); exact ⟨(y376), (wrap64 (x7_1 + 1)), (by first | rfl | (simp; done) | (simp [*]; done)), H', ⟨by have := HK1.out; omega⟩, ⟨by (with_reducible repeat (first | apply Kd.V_alloc | apply Kd.V_drewN | apply Kd.V_drew)); exact af.out⟩, ⟨by (with_reducible repeat (first | apply Kd.N_alloc | apply Kd.N_drewN | apply Kd.N_drew)); exact HO378.out⟩, ⟨bw⟩⟩
    rw [if_pos c8] at H
    have bc : decide ((rd l1 x7_1) < 0) = true := decide_eq_true c8
    clear c8
    by_cases c9 : (wrap64 ((l0.length : Int) + 1)) = 0
    ·rw [if_pos c9] at H
     exact absurd H (by simp)
    rw [if_neg c9] at H
    have c9b0 : ((wrap64 ((l0.length : Int) + 1)) == 0) = false := beq_eq_false_iff_ne.mpr c9
    have c9b1 : ((wrap64 ((l0.length : Int) + 1)) != 0) = true := bne_iff_ne.mpr c9
    obtain ⟨ji10, hji10⟩ : ∃ j_ : Int, (Int.tmod (wrap64 (-(wrap64 ((rd l1 x7_1) + 1)))) (wrap64 ((l0.length : Int) + 1))) = j_ := ⟨_, rfl⟩
    replace H : (if 0 ≤ (ji10) then (if (ji10) ≤ (l0.length : Int) then (if x6_1.length < 5864062014805 then (carillonlaw19_FlushHolds.l0 k1 l0 l1 t361 (x6_1 ++ [(l0.take ((ji10) : Int).toNat)]) (wrap64 (x7_1 + 1))) else (none)) else (none)) else (none)) = some r := by first | (rw [hji10] at H; exact H) | (simp only [hji10] at H ⊢; exact H)
    by_cases c11 : 0 ≤ (ji10); rotate_left
    ·rw [if_neg c11] at H
     exact absurd H (by simp)
    rw [if_pos c11] at H
    have c11b0 := eq_true c11
    have c11b1 : decide (0 ≤ (ji10)) = true := decide_eq_true c11
    clear c11
    by_cases c12 : (ji10) ≤ (l0.length : Int); rotate_left
    ·rw [if_neg c12] at H
     exact absurd H (by simp)
    rw [if_pos c12] at H
    have c12b0 := eq_true c12
    have c12b1 : decide ((ji10) ≤ (l0.length : Int)) = true := decide_eq_true c12
    clear c12
    obtain ⟨y363, hy363⟩ : ∃ y_ : List ByteArray, y_ = (l0.take ((ji10) : Int).toNat) := ⟨_, rfl⟩
    replace H : (if x6_1.length < 5864062014805 then (carillonlaw19_FlushHolds.l0 k1 l0 l1 t361 (x6_1 ++ [y363]) (wrap64 (x7_1 + 1))) else (none)) = some r := by first | (rw [hy363]; with_reducible exact H) | (have H2_ := (Option.bind_some _ _).symm.trans H; rw [hy363]; with_reducible exact H2_) | (have H2_ := (Option.bind_some _ _).symm.trans H; with_reducible exact H2_) | with_reducible exact H | (rw [hy363]; exact H) | exact H
    have Ny363 := Aside0.mk hy363
    clear hy363
    by_cases c13 : x6_1.length < 5864062014805; rotate_left
    ·rw [if_neg c13] at H
     exact absurd H (by simp)
    rw [if_pos c13] at H
    have LMc13 := Aside0.mk c13
    clear c13
    obtain ⟨y368, hy368⟩ : ∃ y_ : List (List ByteArray), y_ = (x6_1 ++ [y363]) := ⟨_, rfl⟩
    replace H : (carillonlaw19_FlushHolds.l0 k1 l0 l1 t361 y368 (wrap64 (x7_1 + 1))) = some r := by first | (rw [hy368]; with_reducible exact H) | (have H2_ := (Option.bind_some _ _).symm.trans H; rw [hy368]; with_reducible exact H2_) | (have H2_ := (Option.bind_some _ _).symm.trans H; with_reducible exact H2_) | with_reducible exact H | (rw [hy368]; exact H) | exact H
    have Ny368 := Aside0.mk hy368
    clear hy368
    have H' := Aside0.mk H
    clear H
    have p362 : 0 ≤ (x7_1 : Int) := od
    have q362 : x7_1 < (l1.length : Int) := od
    obtain ⟨ad362, e362, ag⟩ := Kd.at_int HR1.out x7_1 p362 q362
    cases e362
    replace ag := (HB.out.cell (World.block_lt_of_cell? w _ ag)).trans ag
    replace p362 := eq_true p362
    replace q362 := eq_true q362
    have q14 : ((ji10) : Int) ≤ ((l0.length : Int) : Int) := od
    obtain ⟨i014, ar, _, hsz14, _⟩ := info_parts info9
    have al : l0.length ≤ c0 := (Kd.V_reads' af.out).2.1
    have bd : Kd.F Kd.string _ _ A0 l0.length l0 := (Kd.V_at (base := w.heap.size) af.out).2.2
    have hcut14 := cut_to (P := Tryd.prog) 23 9 .i64 Tryd.underlying23 ar A0 l0.length c0 (ji10) (od) q14 al
    have a9 := Kd.F_take (m := ((ji10) : Int).toNat) bd (by omega)
    have hy14 : y363.length = ((ji10) : Int).toNat := (by rw [Ny363.out, List.length_take]; omega)
    rw [← Ny363.out] at a9
    rw [← hy14] at hcut14
    have aj := Aside0.mk (show Kd.V Kd.string 9 _ w.heap.size _ (.slice A0 y363.length c0) y363 from Kd.V_mk (by omega) a9)
    have HC367 := Aside0.mk (show y363.length ≤ c0 from by omega)
    clear a9 bd al ar hsz14
    have KY14 := Aside0.mk hy14
    clear hy14
    replace q14 := eq_true q14
    go_wp2_with (first | ((with_reducible refine gate_builtin (b := .append) (xs := #[.tmp 33, .tmp 41]) rfl ?_); (try (refine gate_guard (by rfl) ?_; dsimp only)); at_builtin; refine Kd.N_append (Kd.slice 9 Kd.string) (w0 := w) w.heap.size rfl (.tmp 33) (.tmp 41) 22 23 (.slice none 0 0) 24 rfl Tryd.underlying22 info23 rfl (by decide) (by omega) u6 x6_1 y363 [.slice A0 y363.length c0] (fun k_ => (P0_ k_ ∨ w.heap.size ≤ k_)) (fun k_ => ((fun k_ => (P0_ k_ ∨ w.heap.size ≤ k_))) k_ ∧ some k_ ≠ (u6 : Value).ownBlock) rfl rfl ?aP (fun _ hk => hk) ?aF ?aO ?aB ?aS ?aL ?_; (case aP => exact (Kd.FK_slice_mk (Kd.V_reads' (Kd.V_mono (ok' := (fun k_ => ((fun k_ => (P0_ k_ ∨ w.heap.size ≤ k_))) k_ ∧ some k_ ≠ (u6 : Value).ownBlock)) (aj.out) (fun k_ hk => ⟨hk.1, hk.2⟩))).2.1 (Kd.V_F (Kd.V_mono (ok' := (fun k_ => ((fun k_ => (P0_ k_ ∨ w.heap.size ≤ k_))) k_ ∧ some k_ ≠ (u6 : Value).ownBlock)) (aj.out) (fun k_ hk => ⟨hk.1, hk.2⟩))))); (case aB => exact bw); (case aF => exact (fun k_ hk => (.inr (Nat.le_trans (below_size bw) hk)))); (case aO => exact (by (with_reducible repeat (first | apply Kd.N_alloc | apply Kd.N_drewN | apply Kd.N_drew)); exact aa.out)); (case aS => exact (below_size bw)); (case aL => have := LMc13.out; omega); intro v369 w15 ho hb hg hat; rw [← Ny368.out] at ho; have n0_ := Aside0.mk (Kd.V_afterv (ok := (fun k_ => (P0_ k_ ∨ w.heap.size ≤ k_))) (by (with_reducible repeat (first | apply Kd.V_alloc | apply Kd.V_drewN | apply Kd.V_drew)); exact af.out) hg hat); have n1_ := Aside0.mk (Kd.V_afterv (ok := (fun k_ => (P0_ k_ ∨ w.heap.size ≤ k_))) (by (with_reducible repeat (first | apply Kd.V_alloc | apply Kd.V_drewN | apply Kd.V_drew)); exact aj.out) hg hat); have n2_ := Aside0.mk (hb); have n3_ := Aside0.mk (ho); clear af; clear aj; clear HB; clear aa; have af := n0_; have aj := n1_; have HB := n2_; have HO370 := n3_; clear n0_ n1_ n2_ n3_; clear ho hb hg hat))
    go_roundg k1
    case measure => have := HK1.out; omega
    case rel => (try rw [hji10]); exact ⟨(y368), (wrap64 (x7_1 + 1)), (by first | rfl | (simp; done) | (simp [*]; done)), H', ⟨by have := HK1.out; omega⟩, ⟨by (with_reducible repeat (first | apply Kd.V_alloc | apply Kd.V_drewN | apply Kd.V_drew)); exact af.out⟩, ⟨by (with_reducible repeat (first | apply Kd.N_alloc | apply Kd.N_drewN | apply Kd.N_drew)); exact HO370.out⟩, ⟨bw⟩⟩
   rw [if_neg c6] at H
   have bb : decide (x7_1 < 20) = false := decide_eq_false c6
   clear c6
   replace H := Option.bind_eq_some_iff.mp H
   obtain ⟨⟨t379, t382⟩, A230, H⟩ := H
   replace H : (if (x6_1.length : Int) = 0 then (if t361 = true then (some (t382 == 1)) else (some false)) else (carillonlaw19_FlushHolds.l1 k1 t361 x6_1 t379 t382 false 0)) = some r := H
   have A23 := Aside0.mk A230
   clear A230
   by_cases c24 : (x6_1.length : Int) = 0
   ·rw [if_pos c24] at H
    have av : ((x6_1.length : Int) == 0) = true := beq_iff_eq.mpr c24
    have aw : ((x6_1.length : Int) != 0) = false := bne_eq_false_iff_eq.mpr c24
    clear c24
    by_cases c25 : t361 = true; rotate_left
    ·replace c25 := Bool.eq_false_iff.mpr c25
     subst c25
     have H1 : (some false) = some r := by rw [if_neg (show ¬ (false = true) by decide)] at H; exact H
     clear H
     have H := H1
     clear H1
     exact absurd ((Option.some.inj H).trans hr_.out) (by decide)
    subst c25
    have H1 : (some (t382 == 1)) = some r := by rw [if_pos rfl] at H; exact H
    clear H
    have H := H1
    clear H1
    obtain rfl := Option.some.inj H
    obtain ⟨Ao26, co26, eo26⟩ := Kd.N_slice aa.out
    subst eo26
    go_wp2_with (first | ((with_reducible refine gate_callee (f := 10) rfl ?_); refine goesL_ (some 45) rfl rfl Tryd.func10 (by kernel_rfl) rfl #[.slice Ao26 x6_1.length co26] rfl am ?_; (with_reducible refine (flush_Longest.calls k1 (fun k_ => (P0_ k_ ∨ w.heap.size ≤ k_)) _ _ x6_1 t379 t382 _ ?side1 A23.out).mono ?_); (case side1 => exact Kd.N_V (aa.out)); rintro e w27 ⟨v380, rfl, ho0, hb⟩; refine ⟨_, rfl, ?_⟩; have n0_ := Aside0.mk (Kd.V_elder' (by (with_reducible repeat (first | apply Kd.V_alloc | apply Kd.V_drewN | apply Kd.V_drew)); exact af.out) (Kd.R_base ho0) hb); have n1_ := Aside0.mk (Kd.N_elder' (by (with_reducible repeat (first | apply Kd.N_alloc | apply Kd.N_drewN | apply Kd.N_drew)); exact aa.out) (Kd.R_base ho0) hb); have n2_ := Aside0.mk (Kd.R_lower (Kd.R_newM (M := fun k_ => (w.heap.size ≤ k_)) (Kd.R_mono (ok' := fun k_ => True) ho0 (fun _ hk_ => trivial)) (below_size bw) (fun k_ h_ => h_)) (below_size bw)); have n3_ := Aside0.mk (below_step bw hb); clear af; clear aa; clear HB; have af := n0_; have aa := n1_; have ax := n2_; have HB := n3_; clear n0_ n1_ n2_ n3_; (try clear hb); (try clear ho0)))
    go_ret
    exact ⟨er, bw⟩
   rw [if_neg c24] at H
   have av : ((x6_1.length : Int) == 0) = false := beq_eq_false_iff_ne.mpr c24
   have aw : ((x6_1.length : Int) != 0) = true := bne_iff_ne.mpr c24
   have c24b2 : ¬ (x6_1 = []) := fun h_ => c24 (by rw [h_]; rfl)
   have H' := Aside0.mk H
   clear H
   obtain ⟨bf, bg, eo28⟩ := Kd.N_slice aa.out
   subst eo28
   go_wp2_with (first | ((with_reducible refine gate_callee (f := 10) rfl ?_); refine goesL_ (some 45) rfl rfl Tryd.func10 (by kernel_rfl) rfl #[.slice bf x6_1.length bg] rfl am ?_; (with_reducible refine (flush_Longest.calls k1 (fun k_ => (P0_ k_ ∨ w.heap.size ≤ k_)) _ _ x6_1 t379 t382 _ ?side1 A23.out).mono ?_); (case side1 => exact Kd.N_V (aa.out)); rintro e w29 ⟨v380, rfl, ho0, hb⟩; refine ⟨_, rfl, ?_⟩; have n0_ := Aside0.mk (Kd.V_elder' (by (with_reducible repeat (first | apply Kd.V_alloc | apply Kd.V_drewN | apply Kd.V_drew)); exact af.out) (Kd.R_base ho0) hb); have n1_ := Aside0.mk (Kd.N_elder' (by (with_reducible repeat (first | apply Kd.N_alloc | apply Kd.N_drewN | apply Kd.N_drew)); exact aa.out) (Kd.R_base ho0) hb); have n2_ := Aside0.mk (Kd.R_lower (Kd.R_newM (M := fun k_ => (w.heap.size ≤ k_)) (Kd.R_mono (ok' := fun k_ => True) ho0 (fun _ hk_ => trivial)) (below_size bw) (fun k_ h_ => h_)) (below_size bw)); have n3_ := Aside0.mk (below_step bw hb); clear af; clear aa; clear HB; have af := n0_; have aa := n1_; have ax := n2_; have HB := n3_; clear n0_ n1_ n2_ n3_; (try clear hb); (try clear ho0)))
   go_loopg [11, 12] k1 (fun kq v11 v12 w' => ∃ (x11_2 : Bool) (x12_2 : Int), v11 = .bool x11_2 ∧ v12 = .int .i64 x12_2 ∧ Aside0 (carillonlaw19_FlushHolds.l1 kq t361 x6_1 t379 t382 x11_2 x12_2 = some r) ∧ Aside0 (kq ≤ k1) ∧ Aside0 (Kd.N (Kd.slice 9 Kd.string) 23 w' w.heap.size (fun k_ => (P0_ k_ ∨ w.heap.size ≤ k_) ∧ some k_ ≠ (v380 : Value).ownBlock) (.slice bf x6_1.length bg) x6_1) ∧ Aside0 (Kd.R Kd.string 9 w' w.heap.size (fun k_ => (w.heap.size ≤ k_)) v380 t379) ∧ Aside0 (Below w.heap.size w w'))
   case atStart => exact ⟨(false), (0), (by first | rfl | (simp; done) | (simp [*]; done)), (by first | rfl | (simp; done) | (simp [*]; done)), H', ⟨Nat.le_refl _⟩, ⟨by (with_reducible repeat (first | apply Kd.N_alloc | apply Kd.N_drewN | apply Kd.N_drew)); exact aa.out⟩, ⟨by (with_reducible repeat (first | apply Kd.R_alloc | apply Kd.R_drewN | apply Kd.R_drew)); exact Kd.R_mono ax.out (fun _ hk => hk.1)⟩, ⟨bw⟩⟩
   case round =>
    clear H'
    try clear c1
    try clear q1
    try clear c2
    try clear p2
    try clear q2
    try clear p3
    try clear q3
    try clear hx3
    try clear c5
    try clear a8
    try clear c6
    try clear bb
    try clear p6
    try clear c7
    try clear c7b0
    try clear c8
    try clear bc
    try clear c9
    try clear c9b0
    try clear c9b1
    try clear c10
    try clear c11
    try clear c11b0
    try clear c11b1
    try clear c12
    try clear c12b0
    try clear c12b1
    try clear c13
    try clear q14
    try clear c16
    try clear c16b0
    try clear c16b1
    try clear c18
    try clear c18b0
    try clear c18b1
    try clear c19
    try clear c19b0
    try clear c19b1
    try clear c20
    try clear q21
    try clear c24
    try clear av
    try clear aw
    try clear c24b2
    try clear c25
    try clear ag
    try clear p2
    try clear p362
    try clear q14
    try clear q21
    try clear q362
    obtain ⟨x11_2, x12_2, rfl, rfl, HA, HK2, aa, ab, HB⟩ := hrel
    cases gk with
    | zero => exact absurd HA.out (by simp [carillonlaw19_FlushHolds.l1])
    | succ k2 =>
     have H := HA.out
     clear HA
     simp only [carillonlaw19_FlushHolds.l1] at H
     by_cases c30 : x12_2 < (x6_1.length : Int); rotate_left
     ·rw [if_neg c30] at H
      have ay : decide (x12_2 < (x6_1.length : Int)) = false := decide_eq_false c30
      clear c30
      by_cases c45 : t361 = true; rotate_left
      ·replace c45 := Bool.eq_false_iff.mpr c45
       subst c45
       have H1 : (some false) = some r := by rw [if_neg (show ¬ (false = true) by decide)] at H; exact H
       clear H
       have H := H1
       clear H1
       exact absurd ((Option.some.inj H).trans hr_.out) (by decide)
      subst c45
      have H1 : (if t382 = 0 then (some x11_2) else (some false)) = some r := by rw [if_pos rfl] at H; exact H
      clear H
      have H := H1
      clear H1
      by_cases c46 : t382 = 0; rotate_left
      ·rw [if_neg c46] at H
       have a3 : (t382 == 0) = false := beq_eq_false_iff_ne.mpr c46
       have a4 : (t382 != 0) = true := bne_iff_ne.mpr c46
       exact absurd ((Option.some.inj H).trans hr_.out) (by decide)
      rw [if_pos c46] at H
      have a3 : (t382 == 0) = true := beq_iff_eq.mpr c46
      have a4 : (t382 != 0) = false := bne_eq_false_iff_eq.mpr c46
      clear c46
      obtain rfl := Option.some.inj H
      go_wp2
      go_ret
      exact ⟨er, bw⟩
     rw [if_pos c30] at H
     have ay : decide (x12_2 < (x6_1.length : Int)) = true := decide_eq_true c30
     clear c30
     by_cases c31 : 0 ≤ x12_2; rotate_left
     ·rw [if_neg c31] at H
      exact absurd H (by simp)
     rw [if_pos c31] at H
     have c31b0 : decide (0 ≤ x12_2) = true := decide_eq_true c31
     clear c31
     replace H := Option.bind_eq_some_iff.mp H
     obtain ⟨t384, A320, H⟩ := H
     replace H : (if t384 = true then ((flush_Common.f k2 (rd_L1 x6_1 x12_2) t379).bind fun t386 => (if t386 = ((rd_L1 x6_1 x12_2).length : Int) then (if x11_2 = true then (carillonlaw19_FlushHolds.l1 k2 t361 x6_1 t379 t382 true (wrap64 (x12_2 + 1))) else (carillonlaw19_FlushHolds.l1 k2 t361 x6_1 t379 t382 (((rd_L1 x6_1 x12_2).length : Int) == (t379.length : Int)) (wrap64 (x12_2 + 1)))) else (some false))) else (some false)) = some r := H
     have A32 := Aside0.mk A320
     clear A320
     by_cases c33 : t384 = true; rotate_left
     ·replace c33 := Bool.eq_false_iff.mpr c33
      subst c33
      have H1 : (some false) = some r := by rw [if_neg (show ¬ (false = true) by decide)] at H; exact H
      clear H
      have H := H1
      clear H1
      exact absurd ((Option.some.inj H).trans hr_.out) (by decide)
     subst c33
     have H1 : ((flush_Common.f k2 (rd_L1 x6_1 x12_2) t379).bind fun t386 => (if t386 = ((rd_L1 x6_1 x12_2).length : Int) then (if x11_2 = true then (carillonlaw19_FlushHolds.l1 k2 t361 x6_1 t379 t382 true (wrap64 (x12_2 + 1))) else (carillonlaw19_FlushHolds.l1 k2 t361 x6_1 t379 t382 (((rd_L1 x6_1 x12_2).length : Int) == (t379.length : Int)) (wrap64 (x12_2 + 1)))) else (some false))) = some r := by rw [if_pos rfl] at H; exact H
     clear H
     have H := H1
     clear H1
     replace H := Option.bind_eq_some_iff.mp H
     obtain ⟨t386, A340, H⟩ := H
     replace H : (if t386 = ((rd_L1 x6_1 x12_2).length : Int) then (if x11_2 = true then (carillonlaw19_FlushHolds.l1 k2 t361 x6_1 t379 t382 true (wrap64 (x12_2 + 1))) else (carillonlaw19_FlushHolds.l1 k2 t361 x6_1 t379 t382 (((rd_L1 x6_1 x12_2).length : Int) == (t379.length : Int)) (wrap64 (x12_2 + 1)))) else (some false)) = some r := H
     have A34 := Aside0.mk A340
     clear A340
     by_cases c35 : t386 = ((rd_L1 x6_1 x12_2).length : Int); rotate_left
     ·rw [if_neg c35] at H
      have az : (t386 == ((rd_L1 x6_1 x12_2).length : Int)) = false := beq_eq_false_iff_ne.mpr c35
      have a2 : (t386 != ((rd_L1 x6_1 x12_2).length : Int)) = true := bne_iff_ne.mpr c35
      exact absurd ((Option.some.inj H).trans hr_.out) (by decide)
     rw [if_pos c35] at H
     have az : (t386 == ((rd_L1 x6_1 x12_2).length : Int)) = true := beq_iff_eq.mpr c35
     have a2 : (t386 != ((rd_L1 x6_1 x12_2).length : Int)) = false := bne_eq_false_iff_eq.mpr c35
     clear c35
     have HhZ := Aside0.mk H
     clear H
     try go_wp2
     have n0_ := Aside0.mk (Kd.N_drew aa.out)
     have n1_ := Aside0.mk (Kd.R_drew ab.out)
     have n2_ := Aside0.mk (below_drew1 HB.out)
     clear aa
     clear ab
     clear HB
     have aa := n0_
     have ab := n1_
     have HB := n2_
     clear n0_ n1_ n2_
     have p383 : 0 ≤ (x12_2 : Int) := od
     have q383 : x12_2 < (x6_1.length : Int) := od
     obtain ⟨ah, A383_0, c383_0, e383, ac, hl383_0, hi383_0⟩ := at_L1 (Kd.N_reads' aa.out).2.2 x12_2 p383 q383
     cases e383
     obtain ⟨ce383, hce383, hMe383, hcc383⟩ := Kd.N_get aa.out [] x12_2 p383 (by first | exact q383 | exact od | (have e_ := (Kd.N_reads' aa.out).1; omega))
     obtain ⟨ua383_0, uc383_0, rfl, ul383_0, ge383_0⟩ := Kd.FK_slice_open hMe383
     have hv383_0 := hcc383 0 _ rfl
     rw [Nat.add_zero, show ((Kd.slice 9 Kd.string)).sz = 1 from rfl, Nat.mul_one] at hv383_0
     replace hv383_0 := Option.some.inj (hv383_0.symm.trans ac)
     injection hv383_0 with hva_ hvn_ hvc_
     rw [hva_] at ge383_0
     rw [hvc_] at ul383_0
     have HL383_0 := Aside0.mk (show Kd.V Kd.string 9 _ w.heap.size _ _ (rd_L1 x6_1 x12_2) from Kd.V_mk ul383_0 ge383_0)
     clear hva_ hvn_ hvc_ ge383_0 ul383_0
     clear hcc383 hce383
     have HR383_0 := Aside0.mk hi383_0
     have HC383_0 := Aside0.mk hl383_0
     clear hi383_0 hl383_0
     replace p383 := eq_true p383
     replace q383 := eq_true q383
     obtain ⟨bh, bi, bj⟩ := Kd.R_slice ab.out
     (first | subst bj | (injection bj with f1_ f2_ f3_; have f4_ := f1_.symm; have f5_ := f3_.symm; clear f1_ f2_ f3_; subst f4_; subst f5_))
     have p385 : 0 ≤ (x12_2 : Int) := od
     have q385 : x12_2 < (x6_1.length : Int) := od
     obtain ⟨ao, A385_0, c385_0, e385, ad, hl385_0, hi385_0⟩ := at_L1 (Kd.N_reads' aa.out).2.2 x12_2 p385 q385
     obtain rfl : ah = ao := (by injection e385)
     obtain ⟨ce385, hce385, hMe385, hcc385⟩ := Kd.N_get aa.out [] x12_2 p385 (by first | exact q385 | exact od | (have e_ := (Kd.N_reads' aa.out).1; omega))
     obtain ⟨ua385_0, uc385_0, rfl, ul385_0, ge385_0⟩ := Kd.FK_slice_open hMe385
     have hv385_0 := hcc385 0 _ rfl
     rw [Nat.add_zero, show ((Kd.slice 9 Kd.string)).sz = 1 from rfl, Nat.mul_one] at hv385_0
     replace hv385_0 := Option.some.inj (hv385_0.symm.trans ad)
     injection hv385_0 with hva_ hvn_ hvc_
     rw [hva_] at ge385_0
     rw [hvc_] at ul385_0
     have HL385_0 := Aside0.mk (show Kd.V Kd.string 9 _ w.heap.size _ _ (rd_L1 x6_1 x12_2) from Kd.V_mk ul385_0 ge385_0)
     clear hva_ hvn_ hvc_ ge385_0 ul385_0
     clear hcc385 hce385
     have HR385_0 := Aside0.mk hi385_0
     have HC385_0 := Aside0.mk hl385_0
     clear hi385_0 hl385_0
     replace p385 := eq_true p385
     replace q385 := eq_true q385
     have p387 : 0 ≤ (x12_2 : Int) := od
     have q387 : x12_2 < (x6_1.length : Int) := od
     obtain ⟨ap, A387_0, c387_0, e387, ae, hl387_0, hi387_0⟩ := at_L1 (Kd.N_reads' aa.out).2.2 x12_2 p387 q387
     obtain rfl : ah = ap := (by injection e387)
     obtain ⟨ce387, hce387, hMe387, hcc387⟩ := Kd.N_get aa.out [] x12_2 p387 (by first | exact q387 | exact od | (have e_ := (Kd.N_reads' aa.out).1; omega))
     obtain ⟨ua387_0, uc387_0, rfl, ul387_0, ge387_0⟩ := Kd.FK_slice_open hMe387
     have hv387_0 := hcc387 0 _ rfl
     rw [Nat.add_zero, show ((Kd.slice 9 Kd.string)).sz = 1 from rfl, Nat.mul_one] at hv387_0
     replace hv387_0 := Option.some.inj (hv387_0.symm.trans ae)
     injection hv387_0 with hva_ hvn_ hvc_
     rw [hva_] at ge387_0
     rw [hvc_] at ul387_0
     have HL387_0 := Aside0.mk (show Kd.V Kd.string 9 _ w.heap.size _ _ (rd_L1 x6_1 x12_2) from Kd.V_mk ul387_0 ge387_0)
     clear hva_ hvn_ hvc_ ge387_0 ul387_0
     clear hcc387 hce387
     have HR387_0 := Aside0.mk hi387_0
     have HC387_0 := Aside0.mk hl387_0
     clear hi387_0 hl387_0
     replace p387 := eq_true p387
     replace q387 := eq_true q387
     obtain ⟨rfl, rfl⟩ : A383_0 = A385_0 ∧ c383_0 = c385_0 := by have q_ := Option.some.inj (ac.symm.trans ad); injection q_ with e1_ _ e3_; exact ⟨e1_, e3_⟩
     obtain ⟨rfl, rfl⟩ : A383_0 = A387_0 ∧ c383_0 = c387_0 := by have q_ := Option.some.inj (ac.symm.trans ae); injection q_ with e1_ _ e3_; exact ⟨e1_, e3_⟩
     refine start_ (n := 21) (S := fun w' => w'.cell? (ah.add (x12_2).toNat) = some (.slice A383_0 (rd_L1 x6_1 x12_2).length c383_0) ∧ w'.cell? (ah.add (x12_2).toNat) = some (.slice A383_0 (rd_L1 x6_1 x12_2).length c383_0) ∧ w'.cell? (ah.add (x12_2).toNat) = some (.slice A383_0 (rd_L1 x6_1 x12_2).length c383_0)) (ds := []) (bz 21 0) (by kernel_rfl) rfl rfl ⟨ac, ad, ae⟩ (fun hHeld => ?_); refine with_tabW carillonlaw19_FlushHolds.tab17 carillonlaw19_FlushHolds.bits17 (fun HT_ HW_ => ?_)
     generalize wr.drew = w37 at aa ab HB HL383_0 HL385_0 HL387_0 HR383_0 HR385_0 HR387_0 ac ad ae hHeld ⊢
     refine pu_ 0 (some 62) (bz 21 1) HT_.out ?_
     refine pu_ 1 (some 63) (bz 21 3) HT_.out ?_
     refine pu_ 2 (some 64) (bz 21 7) HT_.out ?_
     refine pu_ 4 (some 66) (bz 21 23) HT_.out ?_
     refine take_ (i := 3) (N := some 65) (v := ?_) (a' := ?_) (bz 21 31) rfl rfl (take_ofW HT_.out HW_.out (by kernel_rfl)) (fun _ _ _ h => h) (Or.inl ⟨by rfl, ?_⟩) hHeld ?_ ?_
     rotate_left
     ·rintro w' ⟨s0, s1, s2⟩
      go_simp
      with_reducible rfl
     rotate_left
     ·simp only [Act.put, sl1, sl2, sl3, i64_w, i32_w]
      rfl
     refine one_ (i := 5) (N := some 67) (bz 21 63) rfl rfl (one_of HT_.out (by kernel_rfl)) (by decide) (fun K hK => ?_)
     refine goes_ Tryd.func14 (by kernel_rfl) rfl #[.slice A383_0 (rd_L1 x6_1 x12_2).length c383_0, .slice bh t379.length bi] (by rfl) rfl rfl am ?_
     with_reducible refine (flush_Prefix.calls k2 _ _ (rd_L1 x6_1 x12_2) _ _ t379 true _ ?side1 ?side2 ?side3 ?side4 A32.out).mono ?_
     (case side1 => repeat (first | exact (by repeat (first | (with_reducible exact HR383_0.out) | (with_reducible refine Kd.C_alloc ?_ _) | (with_reducible refine Kd.C_drewN ?_ _) | (with_reducible refine Kd.C_drew ?_) | exact HR383_0.out)) | (with_reducible refine Kd.C_alloc ?_ _) | (with_reducible refine Kd.C_drewN ?_ _) | (with_reducible refine Kd.C_drew ?_)))
     (case side2 => exact HC383_0.out)
     (case side3 => repeat (first | exact (Kd.R_reads' ab.out).2.2 | (with_reducible refine Kd.C_alloc ?_ _) | (with_reducible refine Kd.C_drewN ?_ _) | (with_reducible refine Kd.C_drew ?_)))
     (case side4 => exact (Kd.R_reads' ab.out).2.1)
     rintro e w39 ⟨rfl, hb⟩
     have HS0_ := (hb.cell (World.block_lt_of_cell? _ _ (hHeld.1))).trans (hHeld.1)
     have HS1_ := (hb.cell (World.block_lt_of_cell? _ _ (hHeld.2.1))).trans (hHeld.2.1)
     have HS2_ := (hb.cell (World.block_lt_of_cell? _ _ (hHeld.2.2))).trans (hHeld.2.2)
     refine ⟨_, rfl, ?_⟩
     have n0_ := Aside0.mk (Kd.N_below (by (with_reducible repeat (first | apply Kd.N_alloc | apply Kd.N_drewN | apply Kd.N_drew)); exact aa.out) hb)
     have n1_ := Aside0.mk (Kd.R_below (by (with_reducible repeat (first | apply Kd.R_alloc | apply Kd.R_drewN | apply Kd.R_drew)); exact ab.out) hb)
     have n2_ := Aside0.mk (Kd.V_below (by (with_reducible repeat (first | apply Kd.V_alloc | apply Kd.V_drewN | apply Kd.V_drew)); exact HL383_0.out) hb)
     have n3_ := Aside0.mk (Kd.C_below (by repeat (first | (with_reducible exact HR383_0.out) | (with_reducible refine Kd.C_alloc ?_ _) | (with_reducible refine Kd.C_drewN ?_ _) | (with_reducible refine Kd.C_drew ?_) | exact HR383_0.out)) hb)
     have n4_ := Aside0.mk (below_step bw hb)
     clear aa
     clear ab
     clear HL383_0
     clear HR383_0
     clear HB
     have aa := n0_
     have ab := n1_
     have HL383_0 := n2_
     have HR383_0 := n3_
     have HB := n4_
     clear n0_ n1_ n2_ n3_ n4_
     (try clear hb)
     (try clear hb2)
     (try clear hk)
     (try clear hi)
     refine hK.out _ _ ⟨HS0_, HS1_, HS2_⟩ (fun hHeld => ?_)
     clear hK K
     refine norm_ (a' := ?_) ?_ ?_
     rotate_left
     ·show Act.put _ (some 67) _ = _
      simp only [Act.put, sl1, sl2, sl3, i64_w, i32_w]
      rfl
     refine pu_ 6 (some 68) (bz 21 127) HT_.out ?_
     refine pu_ 7 (some 69) (bz 21 255) HT_.out ?_
     refine pu_ 8 (some 70) (bz 21 511) HT_.out ?_
     refine pu_ 9 (some 71) (bz 21 1023) HT_.out ?_
     refine pu_ 10 (some 72) (bz 21 2047) HT_.out ?_
     refine pu_ 12 (some 74) (bz 21 6143) HT_.out ?_
     refine pu_ 14 (some 76) (bz 21 22527) HT_.out ?_
     refine pu_ 15 (some 77) (bz 21 55295) HT_.out ?_
     refine pu_ 16 (some 78) (bz 21 120831) HT_.out ?_
     refine take_ (i := 11) (N := some 73) (v := ?_) (a' := ?_) (bz 21 122879) rfl rfl (take_ofW HT_.out HW_.out (by kernel_rfl)) (fun _ _ _ h => h) (Or.inl ⟨by rfl, ?_⟩) hHeld ?_ ?_
     rotate_left
     ·rintro w' ⟨s0, s1, s2⟩
      go_simp
      with_reducible rfl
     rotate_left
     ·simp only [Act.put, sl1, sl2, sl3, i64_w, i32_w]
      rfl
     refine take_ (i := 17) (N := some 79) (v := ?_) (a' := ?_) (bz 21 253951) rfl rfl (take_ofW HT_.out HW_.out (by kernel_rfl)) (fun _ _ _ h => h) (Or.inl ⟨by rfl, ?_⟩) hHeld ?_ ?_
     rotate_left
     ·rintro w' ⟨s0, s1, s2⟩
      go_simp
      with_reducible rfl
     rotate_left
     ·simp only [Act.put, sl1, sl2, sl3, i64_w, i32_w]
      rfl
     refine pu_ 18 (some 80) (bz 21 516095) HT_.out ?_
     refine one_ (i := 13) (N := some 75) (bz 21 524287) rfl rfl (one_of HT_.out (by kernel_rfl)) (by decide) (fun K hK => ?_)
     refine goes_ Tryd.func12 (by kernel_rfl) rfl #[.slice A383_0 (rd_L1 x6_1 x12_2).length c383_0, .slice bh t379.length bi] (by rfl) rfl rfl am ?_
     with_reducible refine (flush_Common.calls k2 _ _ (rd_L1 x6_1 x12_2) _ _ t379 t386 _ ?side1 ?side2 ?side3 ?side4 A34.out).mono ?_
     (case side1 => repeat (first | exact (by repeat (first | (with_reducible exact HR383_0.out) | (with_reducible refine Kd.C_alloc ?_ _) | (with_reducible refine Kd.C_drewN ?_ _) | (with_reducible refine Kd.C_drew ?_) | exact HR383_0.out)) | (with_reducible refine Kd.C_alloc ?_ _) | (with_reducible refine Kd.C_drewN ?_ _) | (with_reducible refine Kd.C_drew ?_)))
     (case side2 => exact HC385_0.out)
     (case side3 => repeat (first | exact (Kd.R_reads' ab.out).2.2 | (with_reducible refine Kd.C_alloc ?_ _) | (with_reducible refine Kd.C_drewN ?_ _) | (with_reducible refine Kd.C_drew ?_)))
     (case side4 => exact (Kd.R_reads' ab.out).2.1)
     rintro e w40 ⟨rfl, hb⟩
     have HS0_ := (hb.cell (World.block_lt_of_cell? _ _ (hHeld.1))).trans (hHeld.1)
     have HS1_ := (hb.cell (World.block_lt_of_cell? _ _ (hHeld.2.1))).trans (hHeld.2.1)
     have HS2_ := (hb.cell (World.block_lt_of_cell? _ _ (hHeld.2.2))).trans (hHeld.2.2)
     refine ⟨_, rfl, ?_⟩
     have n0_ := Aside0.mk (Kd.N_below (by (with_reducible repeat (first | apply Kd.N_alloc | apply Kd.N_drewN | apply Kd.N_drew)); exact aa.out) hb)
     have n1_ := Aside0.mk (Kd.R_below (by (with_reducible repeat (first | apply Kd.R_alloc | apply Kd.R_drewN | apply Kd.R_drew)); exact ab.out) hb)
     have n2_ := Aside0.mk (Kd.V_below (by (with_reducible repeat (first | apply Kd.V_alloc | apply Kd.V_drewN | apply Kd.V_drew)); exact HL383_0.out) hb)
     have n3_ := Aside0.mk (Kd.V_below (by (with_reducible repeat (first | apply Kd.V_alloc | apply Kd.V_drewN | apply Kd.V_drew)); exact HL383_0.out) hb)
     have n4_ := Aside0.mk (Kd.C_below (by repeat (first | (with_reducible exact HR383_0.out) | (with_reducible refine Kd.C_alloc ?_ _) | (with_reducible refine Kd.C_drewN ?_ _) | (with_reducible refine Kd.C_drew ?_) | exact HR383_0.out)) hb)
     have n5_ := Aside0.mk (Kd.C_below (by repeat (first | (with_reducible exact HR383_0.out) | (with_reducible refine Kd.C_alloc ?_ _) | (with_reducible refine Kd.C_drewN ?_ _) | (with_reducible refine Kd.C_drew ?_) | exact HR383_0.out)) hb)
     have n6_ := Aside0.mk (below_step bw hb)
     clear aa
     clear ab
     clear HL383_0
     clear HL385_0
     clear HR383_0
     clear HR385_0
     clear HB
     have aa := n0_
     have ab := n1_
     have HL383_0 := n2_
     have HL385_0 := n3_
     have HR383_0 := n4_
     have HR385_0 := n5_
     have HB := n6_
     clear n0_ n1_ n2_ n3_ n4_ n5_ n6_
     (try clear hb)
     (try clear hb2)
     (try clear hk)
     (try clear hi)
     refine hK.out _ _ ⟨HS0_, HS1_, HS2_⟩ (fun hHeld => ?_)
     clear hK K
     refine norm_ (a' := ?_) ?_ ?_
     rotate_left
     ·show Act.put _ (some 75) _ = _
      simp only [Act.put, sl1, sl2, sl3, i64_w, i32_w]
      rfl
     refine pu_ 19 (some 81) (bz 21 1048575) HT_.out ?_
     refine pu_ 20 (some 82) (bz 21 2097151) HT_.out ?_
     refine done_ (done_of HT_.out (by kernel_rfl)) ?_
     have H := HhZ.out
     clear HhZ
     by_cases c36 : x11_2 = true
     ·subst c36
      have H1 : (carillonlaw19_FlushHolds.l1 k2 t361 x6_1 t379 t382 true (wrap64 (x12_2 + 1))) = some r := by rw [if_pos rfl] at H; exact H
      clear H
      have H := H1
      clear H1
      have H' := Aside0.mk H
      clear H
      try go_wp2
      go_roundg k2
      case measure => have := HK1.out; have := HK2.out; omega
      case rel => exact ⟨(true), (wrap64 (x12_2 + 1)), (by first | rfl | (simp; done) | (simp [*]; done)), (by first | rfl | (simp; done) | (simp [*]; done)), H', ⟨by have := HK1.out; have := HK2.out; omega⟩, ⟨by (with_reducible repeat (first | apply Kd.N_alloc | apply Kd.N_drewN | apply Kd.N_drew)); exact aa.out⟩, ⟨by (with_reducible repeat (first | apply Kd.R_alloc | apply Kd.R_drewN | apply Kd.R_drew)); exact ab.out⟩, ⟨bw⟩⟩
     replace c36 := Bool.eq_false_iff.mpr c36
     subst c36
     have H1 : (carillonlaw19_FlushHolds.l1 k2 t361 x6_1 t379 t382 (((rd_L1 x6_1 x12_2).length : Int) == (t379.length : Int)) (wrap64 (x12_2 + 1))) = some r := by rw [if_neg (show ¬ (false = true) by decide)] at H; exact H
     clear H
     have H := H1
     clear H1
     have H' := Aside0.mk H
     clear H
     have p388 : 0 ≤ (x12_2 : Int) := od
     have q388 : x12_2 < (x6_1.length : Int) := od
     obtain ⟨aq, A388_0, c388_0, e388, ai, hl388_0, hi388_0⟩ := at_L1 (Kd.N_reads' aa.out).2.2 x12_2 p388 q388
     obtain rfl : ah = aq := (by injection e388)
     obtain ⟨ce388, hce388, hMe388, hcc388⟩ := Kd.N_get aa.out [] x12_2 p388 (by first | exact q388 | exact od | (have e_ := (Kd.N_reads' aa.out).1; omega))
     obtain ⟨ua388_0, uc388_0, rfl, ul388_0, ge388_0⟩ := Kd.FK_slice_open hMe388
     have hv388_0 := hcc388 0 _ rfl
     rw [Nat.add_zero, show ((Kd.slice 9 Kd.string)).sz = 1 from rfl, Nat.mul_one] at hv388_0
     replace hv388_0 := Option.some.inj (hv388_0.symm.trans ai)
     injection hv388_0 with hva_ hvn_ hvc_
     rw [hva_] at ge388_0
     rw [hvc_] at ul388_0
     have HL388_0 := Aside0.mk (show Kd.V Kd.string 9 _ w.heap.size _ _ (rd_L1 x6_1 x12_2) from Kd.V_mk ul388_0 ge388_0)
     clear hva_ hvn_ hvc_ ge388_0 ul388_0
     clear hcc388 hce388
     have HR388_0 := Aside0.mk hi388_0
     have HC388_0 := Aside0.mk hl388_0
     clear hi388_0 hl388_0
     replace p388 := eq_true p388
     replace q388 := eq_true q388
     try go_wp2
     go_roundg k2
     case measure => have := HK1.out; have := HK2.out; omega
     case rel => exact ⟨((((rd_L1 x6_1 x12_2).length : Int) == (t379.length : Int))), (wrap64 (x12_2 + 1)), (by first | rfl | (simp; done) | (simp [*]; done)), (by first | rfl | (simp; done) | (simp [*]; done)), H', ⟨by have := HK1.out; have := HK2.out; omega⟩, ⟨by (with_reducible repeat (first | apply Kd.N_alloc | apply Kd.N_drewN | apply Kd.N_drew)); exact aa.out⟩, ⟨by (with_reducible repeat (first | apply Kd.R_alloc | apply Kd.R_drewN | apply Kd.R_drew)); exact ab.out⟩, ⟨bw⟩⟩

end Go.Proofs.YtokebimfflobbaaDoor.P
