-- Printed by this session's program wip/xp.py (a turned copy of the kit's printer): functions, their contracts.
import Derived.Test.YtdpogggajdfedaaDoorPx0
import Derived.Test.YtdpogggajdfedaaDoorPx9
namespace Go.Proofs.YtdpogggajdfedaaDoor.P
open Go.RowKit Go.Proofs.YtdpogggajdfedaaDoorW.PrintWords Go.Proofs.YtdpogggajdfedaaDoorW.PrintLast Go.Proofs.YtdpogggajdfedaaDoorW.PrintMore
attribute [local go_sem] max2_int min2_int max_two min_two max_three min_three max_four min_four   -- for this text's walks alone
set_option linter.unusedVariables false
set_option linter.unusedSimpArgs false

/-! ### carillonref01_Decode: function 24 -/
mutual
def carillonref01_Decode.l0 : Nat → ByteArray → List Int → List Int → List (S50) → Int → Option ((List (S50)) × Int)
 | 0, _, _, _, _, _ => none
 | k + 1, x1, x6, x7, x9, x10 => if x10 < (x6.length : Int) then (carillonref01_Decode.j1 k x1 x6 x7 x9 x10 true) else (carillonref01_Decode.j1 k x1 x6 x7 x9 x10 (decide ((x7.length : Int) > 0)))
def carillonref01_Decode.j1 : Nat → ByteArray → List Int → List Int → List (S50) → Int → Bool → Option ((List (S50)) × Int)
 | 0, _, _, _, _, _, _ => none
 | k + 1, x1, x6, x7, x9, x10, x31 => if x31 = true then (if x10 ≥ (x6.length : Int) then (if (x7.length : Int) = 0 then (none) else (if (Int.tmod (wrap64 (x10 - (x6.length : Int))) (x7.length : Int)) = 0 then (carillonref01_Decode.j2 k x1 x6 x7 x9 x10 (x1.toList == ([] : List UInt8))) else (carillonref01_Decode.j2 k x1 x6 x7 x9 x10 false))) else (carillonref01_Decode.j2 k x1 x6 x7 x9 x10 false)) else (if x1.toList = ([] : List UInt8) then (some (x9, 0)) else (some (([] : List (S50)), 10)))
def carillonref01_Decode.j2 : Nat → ByteArray → List Int → List Int → List (S50) → Int → Bool → Option ((List (S50)) × Int)
 | 0, _, _, _, _, _, _ => none
 | k + 1, x1, x6, x7, x9, x10, x51 => if x51 = true then (some (x9, 0)) else (if x10 < (x6.length : Int) then (if 0 ≤ x10 then (carillonref01_Decode.j3 k x1 x6 x7 x9 x10 (rd x6 x10)) else (none)) else (if (x7.length : Int) = 0 then (none) else (if 0 ≤ (Int.tmod (wrap64 (x10 - (x6.length : Int))) (x7.length : Int)) then (if (Int.tmod (wrap64 (x10 - (x6.length : Int))) (x7.length : Int)) < (x7.length : Int) then (carillonref01_Decode.j3 k x1 x6 x7 x9 x10 (rd x7 (Int.tmod (wrap64 (x10 - (x6.length : Int))) (x7.length : Int)))) else (none)) else (none))))
def carillonref01_Decode.j3 : Nat → ByteArray → List Int → List Int → List (S50) → Int → Int → Option ((List (S50)) × Int)
 | 0, _, _, _, _, _, _ => none
 | k + 1, x1, x6, x7, x9, x10, x11 => if (x9.length : Int) = 1000 then (some (([] : List (S50)), 3)) else ((carillonref01_take.f k x11 x1).bind fun bt261 => (if bt261.2.2.2.2 = 0 then (if x9.length < 4398046511104 then (if 0 ≤ bt261.2.2.2.1 then (if bt261.2.2.2.1 ≤ (x1.size : Int) then (carillonref01_Decode.l0 k (x1.extract (bt261.2.2.2.1 : Int).toNat x1.size) x6 x7 (x9 ++ [(⟨bt261.1, bt261.2.1, bt261.2.2.1⟩ : S50)]) (wrap64 (x10 + 1))) else (none)) else (none)) else (none)) else (some (([] : List (S50)), bt261.2.2.2.2))))
end
def carillonref01_Decode.f (k : Nat) (a0 : ByteArray) (a1 : ByteArray) : Option ((List (S50)) × Int) := (carillonref01_kinds.f k a0).bind fun bt252 => (if bt252.2.2 = true then (carillonref01_Decode.l0 k a1 bt252.1 bt252.2.1 ([] : List (S50)) 0) else (some (([] : List (S50)), 1)))
theorem carillonref01_Decode.mono_l : ∀ k, (∀ y0 y1 y2 y3 y4, LeO (carillonref01_Decode.l0 k y0 y1 y2 y3 y4) (carillonref01_Decode.l0 (k + 1) y0 y1 y2 y3 y4)) ∧ (∀ y0 y1 y2 y3 y4 y5, LeO (carillonref01_Decode.j1 k y0 y1 y2 y3 y4 y5) (carillonref01_Decode.j1 (k + 1) y0 y1 y2 y3 y4 y5)) ∧ (∀ y0 y1 y2 y3 y4 y5, LeO (carillonref01_Decode.j2 k y0 y1 y2 y3 y4 y5) (carillonref01_Decode.j2 (k + 1) y0 y1 y2 y3 y4 y5)) ∧ (∀ y0 y1 y2 y3 y4 y5, LeO (carillonref01_Decode.j3 k y0 y1 y2 y3 y4 y5) (carillonref01_Decode.j3 (k + 1) y0 y1 y2 y3 y4 y5))
 | 0 => ⟨fun _ _ _ _ _ r h => by simp [carillonref01_Decode.l0] at h, fun _ _ _ _ _ _ r h => by simp [carillonref01_Decode.j1] at h, fun _ _ _ _ _ _ r h => by simp [carillonref01_Decode.j2] at h, fun _ _ _ _ _ _ r h => by simp [carillonref01_Decode.j3] at h⟩
 | k + 1 => by
  obtain ⟨ih0, ih1, ih2, ih3⟩ := carillonref01_Decode.mono_l k
  refine ⟨?_, ?_, ?_, ?_⟩
  ·intro y0 y1 y2 y3 y4
   unfold carillonref01_Decode.l0
   repeat' first
   | (with_reducible exact ih0 _ _ _ _ _)
   | (with_reducible exact ih1 _ _ _ _ _ _)
   | (with_reducible exact ih2 _ _ _ _ _ _)
   | (with_reducible exact ih3 _ _ _ _ _ _)
   | (with_reducible exact carillonref01_kinds.mono _ _)
   | (with_reducible exact carillonref01_take.mono _ _ _)
   | (with_reducible exact LeO.refl _)
   | (with_reducible exact LeO.none _)
   | (with_reducible refine LeO.ite ?_ ?_)
   | (with_reducible refine LeO.bind ?_ (fun _ => ?_))
   | exact ih0 _ _ _ _ _
   | exact ih1 _ _ _ _ _ _
   | exact ih2 _ _ _ _ _ _
   | exact ih3 _ _ _ _ _ _
   | exact carillonref01_kinds.mono _ _
   | exact carillonref01_take.mono _ _ _
   | exact LeO.none _
   | refine LeO.ite ?_ ?_
   | refine LeO.bind ?_ (fun _ => ?_)
  ·intro y0 y1 y2 y3 y4 y5
   unfold carillonref01_Decode.j1
   repeat' first
   | (with_reducible exact ih0 _ _ _ _ _)
   | (with_reducible exact ih1 _ _ _ _ _ _)
   | (with_reducible exact ih2 _ _ _ _ _ _)
   | (with_reducible exact ih3 _ _ _ _ _ _)
   | (with_reducible exact carillonref01_kinds.mono _ _)
   | (with_reducible exact carillonref01_take.mono _ _ _)
   | (with_reducible exact LeO.refl _)
   | (with_reducible exact LeO.none _)
   | (with_reducible refine LeO.ite ?_ ?_)
   | (with_reducible refine LeO.bind ?_ (fun _ => ?_))
   | exact ih0 _ _ _ _ _
   | exact ih1 _ _ _ _ _ _
   | exact ih2 _ _ _ _ _ _
   | exact ih3 _ _ _ _ _ _
   | exact carillonref01_kinds.mono _ _
   | exact carillonref01_take.mono _ _ _
   | exact LeO.none _
   | refine LeO.ite ?_ ?_
   | refine LeO.bind ?_ (fun _ => ?_)
  ·intro y0 y1 y2 y3 y4 y5
   unfold carillonref01_Decode.j2
   repeat' first
   | (with_reducible exact ih0 _ _ _ _ _)
   | (with_reducible exact ih1 _ _ _ _ _ _)
   | (with_reducible exact ih2 _ _ _ _ _ _)
   | (with_reducible exact ih3 _ _ _ _ _ _)
   | (with_reducible exact carillonref01_kinds.mono _ _)
   | (with_reducible exact carillonref01_take.mono _ _ _)
   | (with_reducible exact LeO.refl _)
   | (with_reducible exact LeO.none _)
   | (with_reducible refine LeO.ite ?_ ?_)
   | (with_reducible refine LeO.bind ?_ (fun _ => ?_))
   | exact ih0 _ _ _ _ _
   | exact ih1 _ _ _ _ _ _
   | exact ih2 _ _ _ _ _ _
   | exact ih3 _ _ _ _ _ _
   | exact carillonref01_kinds.mono _ _
   | exact carillonref01_take.mono _ _ _
   | exact LeO.none _
   | refine LeO.ite ?_ ?_
   | refine LeO.bind ?_ (fun _ => ?_)
  ·intro y0 y1 y2 y3 y4 y5
   unfold carillonref01_Decode.j3
   repeat' first
   | (with_reducible exact ih0 _ _ _ _ _)
   | (with_reducible exact ih1 _ _ _ _ _ _)
   | (with_reducible exact ih2 _ _ _ _ _ _)
   | (with_reducible exact ih3 _ _ _ _ _ _)
   | (with_reducible exact carillonref01_kinds.mono _ _)
   | (with_reducible exact carillonref01_take.mono _ _ _)
   | (with_reducible exact LeO.refl _)
   | (with_reducible exact LeO.none _)
   | (with_reducible refine LeO.ite ?_ ?_)
   | (with_reducible refine LeO.bind ?_ (fun _ => ?_))
   | exact ih0 _ _ _ _ _
   | exact ih1 _ _ _ _ _ _
   | exact ih2 _ _ _ _ _ _
   | exact ih3 _ _ _ _ _ _
   | exact carillonref01_kinds.mono _ _
   | exact carillonref01_take.mono _ _ _
   | exact LeO.none _
   | refine LeO.ite ?_ ?_
   | refine LeO.bind ?_ (fun _ => ?_)
theorem carillonref01_Decode.mono : ∀ a0 a1 k, LeO (carillonref01_Decode.f k a0 a1) (carillonref01_Decode.f (k + 1) a0 a1) := by
 intro a0 a1 k
 obtain ⟨ih0, ih1, ih2, ih3⟩ := carillonref01_Decode.mono_l k
 unfold carillonref01_Decode.f
 repeat' first
   | (with_reducible exact ih0 _ _ _ _ _)
   | (with_reducible exact ih1 _ _ _ _ _ _)
   | (with_reducible exact ih2 _ _ _ _ _ _)
   | (with_reducible exact ih3 _ _ _ _ _ _)
   | (with_reducible exact carillonref01_kinds.mono _ _)
   | (with_reducible exact carillonref01_take.mono _ _ _)
   | (with_reducible exact LeO.refl _)
   | (with_reducible exact LeO.none _)
   | (with_reducible refine LeO.ite ?_ ?_)
   | (with_reducible refine LeO.bind ?_ (fun _ => ?_))
   | exact ih0 _ _ _ _ _
   | exact ih1 _ _ _ _ _ _
   | exact ih2 _ _ _ _ _ _
   | exact ih3 _ _ _ _ _ _
   | exact carillonref01_kinds.mono _ _
   | exact carillonref01_take.mono _ _ _
   | exact LeO.none _
   | refine LeO.ite ?_ ?_
   | refine LeO.bind ?_ (fun _ => ?_)
set_option maxHeartbeats 8000000 in
set_option maxRecDepth 100000 in
theorem carillonref01_Decode.calls (k : Nat) (a0 : ByteArray) (a1 : ByteArray) (r1 : List (S50)) (r2 : Int) (w : World) (h : carillonref01_Decode.f k a0 a1 = some (r1, r2)) :
  Calls Tryd.prog 24 #[.string a0, .string a1] w fun e w' => ∃ v0_ : Value, e = .returned (.tuple #[v0_, .int .i64 r2]) ∧ Kd.R k50 50 w' w.heap.size (fun _ => True) v0_ r1 ∧ Below w.heap.size w w' := by
 have hu50 := Tryd.underlying50
 have HB := Aside0.mk (Below.refl w.heap.size w)
 have H : ((carillonref01_kinds.f k a0).bind fun bt252 => (if bt252.2.2 = true then (carillonref01_Decode.l0 k a1 bt252.1 bt252.2.1 ([] : List (S50)) 0) else (some (([] : List (S50)), 1)))) = some (r1, r2) := h
 clear h
 replace H := Option.bind_eq_some_iff.mp H
 obtain ⟨⟨t252, t253, t254⟩, A30, H⟩ := H
 replace H : (if t254 = true then (carillonref01_Decode.l0 k a1 t252 t253 ([] : List (S50)) 0) else (some (([] : List (S50)), 1))) = some (r1, r2) := H
 have A3 := Aside0.mk A30
 clear A30
 by_cases c4 : t254 = true; rotate_left
 ·replace c4 := Bool.eq_false_iff.mpr c4
  subst c4
  have H1 : (some (([] : List (S50)), 1)) = some (r1, r2) := by rw [if_neg (show ¬ (false = true) by decide)] at H; exact H
  clear H
  have H := H1
  clear H1
  simp only [Option.some.injEq, Prod.mk.injEq] at H
  obtain ⟨rfl, rfl⟩ := H
  go_enter Tryd.func24, Tryd.ntmps24
  go_wp2_with (first | ((with_reducible refine gate_callee (f := 42) rfl ?_); refine goesL_ (some 17) rfl rfl Tryd.func42 (by kernel_rfl) rfl #[.string a0] rfl am ?_; (with_reducible refine (carillonref01_kinds.calls k a0 t252 t253 false _ A3.out).mono ?_); rintro e w48 ⟨v255, v257, rfl, ho0, ho1, hb⟩; refine ⟨_, rfl, ?_⟩; have n0_ := Aside0.mk (Kd.R_lower ho0 (below_size bw)); have n1_ := Aside0.mk (Kd.R_lower ho1 (below_size bw)); have n2_ := Aside0.mk (below_step bw hb); clear HB; have ao := n0_; have ap := n1_; have HB := n2_; clear n0_ n1_ n2_; (try clear hb); (try clear ho0); (try clear ho1)))
  go_ret2
  exact ⟨_, er, by first | exact Kd.R_nil _ _ _ _ _ | exact Kd.N_nil _ _ _ _ _ | exact Kd.V_nil _ _ _ _ _ | exact Kd.Q_nil _ _ _ _ _ | exact Kd.S_nil _ _ _ _ _, bw⟩
 subst c4
 have H1 : (carillonref01_Decode.l0 k a1 t252 t253 ([] : List (S50)) 0) = some (r1, r2) := by rw [if_pos rfl] at H; exact H
 clear H
 have H := H1
 clear H1
 have H' := Aside0.mk H
 clear H
 go_enter Tryd.func24, Tryd.ntmps24
 go_wp2_with (first | ((with_reducible refine gate_callee (f := 42) rfl ?_); refine goesL_ (some 17) rfl rfl Tryd.func42 (by kernel_rfl) rfl #[.string a0] rfl am ?_; (with_reducible refine (carillonref01_kinds.calls k a0 t252 t253 true _ A3.out).mono ?_); rintro e w5 ⟨v255, v257, rfl, ho0, ho1, hb⟩; refine ⟨_, rfl, ?_⟩; have n0_ := Aside0.mk (Kd.R_lower ho0 (below_size bw)); have n1_ := Aside0.mk (Kd.R_lower ho1 (below_size bw)); have n2_ := Aside0.mk (below_step bw hb); clear HB; have ao := n0_; have ap := n1_; have HB := n2_; clear n0_ n1_ n2_; (try clear hb); (try clear ho0); (try clear ho1)))
 go_loopg [1, 9, 10] k (fun kq v1 v9 v10 w' => ∃ (x1_1 : ByteArray) (x9_1 : List (S50)) (x10_1 : Int), v1 = .string x1_1 ∧ v10 = .int .i64 x10_1 ∧ Aside0 (carillonref01_Decode.l0 kq x1_1 t252 t253 x9_1 x10_1 = some (r1, r2)) ∧ Aside0 (kq ≤ k) ∧ Aside0 (Kd.R (Kd.int .i64) 3 w' w.heap.size (fun k_ => some k_ ≠ (v257 : Value).ownBlock) v255 t252) ∧ Aside0 (Kd.R (Kd.int .i64) 3 w' w.heap.size (fun k_ => some k_ ≠ (v255 : Value).ownBlock) v257 t253) ∧ Aside0 (Kd.R k50 50 w' w.heap.size (fun _ => True) v9 x9_1) ∧ Aside0 (Below w.heap.size w w'))
 case atStart => exact ⟨(a1), (([] : List (S50))), (0), (by first | rfl | (simp; done) | (simp [*]; done)), (by first | rfl | (simp; done) | (simp [*]; done)), H', ⟨Nat.le_refl _⟩, ⟨by (with_reducible repeat (first | apply Kd.R_alloc | apply Kd.R_drewN | apply Kd.R_drew)); exact ao.out⟩, ⟨by (with_reducible repeat (first | apply Kd.R_alloc | apply Kd.R_drewN | apply Kd.R_drew)); exact ap.out⟩, ⟨by first | exact Kd.R_nil _ _ _ _ _ | exact Kd.N_nil _ _ _ _ _ | exact Kd.V_nil _ _ _ _ _ | exact Kd.Q_nil _ _ _ _ _ | exact Kd.S_nil _ _ _ _ _⟩, ⟨bw⟩⟩
 case round =>
  clear H'
  try clear c2
  try clear p2
  try clear c4
  obtain ⟨x1_1, x9_1, x10_1, rfl, rfl, HA, HK1, ab, ad, ac, HB⟩ := hrel
  cases gk with
  | zero => exact absurd HA.out (by simp [carillonref01_Decode.l0])
  | succ k1 =>
   have H := HA.out
   clear HA
   simp only [carillonref01_Decode.l0] at H
   have HC6 := Aside0.mk H
   clear H
   go_upto_region 6 with (fail)
   go_cut [31] (fun v31 wc => ∃ (kq : Nat) (x31_5 : Bool), v31 = .bool x31_5 ∧ Aside0 (carillonref01_Decode.j1 kq x1_1 t252 t253 x9_1 x10_1 x31_5 = some (r1, r2)) ∧ Aside0 (kq ≤ k1) ∧ Aside0 (Kd.R (Kd.int .i64) 3 wc w.heap.size (fun k_ => some k_ ≠ (v257 : Value).ownBlock) v255 t252) ∧ Aside0 (Kd.R (Kd.int .i64) 3 wc w.heap.size (fun k_ => some k_ ≠ (v255 : Value).ownBlock) v257 t253) ∧ Aside0 (Kd.R k50 50 wc w.heap.size (fun _ => True) u9 x9_1) ∧ Aside0 (Below w.heap.size w wc))
   case first =>
    have H := HC6.out
    clear HC6
    by_cases c7 : x10_1 < (t252.length : Int)
    ·rw [if_pos c7] at H
     have ah : decide (x10_1 < (t252.length : Int)) = true := decide_eq_true c7
     clear c7
     (first | rw [ah] | (simp only [i64_w, i32_w]; rw [ah]) | skip)
     have H' := Aside0.mk H
     clear H
     obtain ⟨Ao8, co8, eo8⟩ := Kd.R_slice ab.out
     subst eo8
     go_wp2
     go_meet
     case rel => exact ⟨_, (true), (by first | rfl | (simp; done) | (simp [*]; done)), H', ⟨by have := HK1.out; first | omega | exact Nat.le_refl _⟩, ⟨by (with_reducible repeat (first | apply Kd.R_alloc | apply Kd.R_drewN | apply Kd.R_drew)); exact ab.out⟩, ⟨by (with_reducible repeat (first | apply Kd.R_alloc | apply Kd.R_drewN | apply Kd.R_drew)); exact ad.out⟩, ⟨by (with_reducible repeat (first | apply Kd.R_alloc | apply Kd.R_drewN | apply Kd.R_drew)); exact ac.out⟩, ⟨bw⟩⟩
    rw [if_neg c7] at H
    have ah : decide (x10_1 < (t252.length : Int)) = false := decide_eq_false c7
    clear c7
    (first | rw [ah] | (simp only [i64_w, i32_w]; rw [ah]) | skip)
    have H' := Aside0.mk H
    clear H
    obtain ⟨Ao9, co9, eo9⟩ := Kd.R_slice ab.out
    subst eo9
    obtain ⟨Ao10, co10, eo10⟩ := Kd.R_slice ad.out
    subst eo10
    go_wp2
    go_meet
    case rel => exact ⟨_, (decide ((t253.length : Int) > 0)), (by first | rfl | (simp; done) | (simp [*]; done)), H', ⟨by have := HK1.out; first | omega | exact Nat.le_refl _⟩, ⟨by (with_reducible repeat (first | apply Kd.R_alloc | apply Kd.R_drewN | apply Kd.R_drew)); exact ab.out⟩, ⟨by (with_reducible repeat (first | apply Kd.R_alloc | apply Kd.R_drewN | apply Kd.R_drew)); exact ad.out⟩, ⟨by (with_reducible repeat (first | apply Kd.R_alloc | apply Kd.R_drewN | apply Kd.R_drew)); exact ac.out⟩, ⟨bw⟩⟩
   case rest =>
    clear HC6
    try clear c2
    try clear p2
    try clear c4
    try clear c7
    try clear ah
    try clear p2
    obtain ⟨kq, x31_5, rfl, HA, HJ5, ab, ad, ac, HB⟩ := hcut
    cases kq with
    | zero => exact absurd HA.out (by simp [carillonref01_Decode.j1])
    | succ kj5 =>
     have H := HA.out
     clear HA
     simp only [carillonref01_Decode.j1] at H
     by_cases c11 : x31_5 = true; rotate_left
     ·replace c11 := Bool.eq_false_iff.mpr c11
      subst c11
      have H1 : (if x1_1.toList = ([] : List UInt8) then (some (x9_1, 0)) else (some (([] : List (S50)), 10))) = some (r1, r2) := by rw [if_neg (show ¬ (false = true) by decide)] at H; exact H
      clear H
      have H := H1
      clear H1
      by_cases c47 : x1_1.toList = ([] : List UInt8); rotate_left
      ·rw [if_neg c47] at H
       have c47b0 : (x1_1.toList == ([] : List UInt8)) = false := beq_eq_false_iff_ne.mpr c47
       have c47b1 : (x1_1.toList != ([] : List UInt8)) = true := bne_iff_ne.mpr c47
       simp only [Option.some.injEq, Prod.mk.injEq] at H
       obtain ⟨rfl, rfl⟩ := H
       go_wp2
       go_ret2
       exact ⟨_, er, by first | exact Kd.R_nil _ _ _ _ _ | exact Kd.N_nil _ _ _ _ _ | exact Kd.V_nil _ _ _ _ _ | exact Kd.Q_nil _ _ _ _ _ | exact Kd.S_nil _ _ _ _ _, bw⟩
      rw [if_pos c47] at H
      have c47b0 : (x1_1.toList == ([] : List UInt8)) = true := beq_iff_eq.mpr c47
      have c47b1 : (x1_1.toList != ([] : List UInt8)) = false := bne_eq_false_iff_eq.mpr c47
      clear c47
      simp only [Option.some.injEq, Prod.mk.injEq] at H
      obtain ⟨rfl, rfl⟩ := H
      go_wp2
      go_ret2
      exact ⟨_, er, by (with_reducible repeat (first | apply Kd.R_alloc | apply Kd.R_drewN | apply Kd.R_drew)); exact ac.out, bw⟩
     subst c11
     have H1 : (if x10_1 ≥ (t252.length : Int) then (if (t253.length : Int) = 0 then (none) else (if (Int.tmod (wrap64 (x10_1 - (t252.length : Int))) (t253.length : Int)) = 0 then (carillonref01_Decode.j2 kj5 x1_1 t252 t253 x9_1 x10_1 (x1_1.toList == ([] : List UInt8))) else (carillonref01_Decode.j2 kj5 x1_1 t252 t253 x9_1 x10_1 false))) else (carillonref01_Decode.j2 kj5 x1_1 t252 t253 x9_1 x10_1 false)) = some (r1, r2) := by rw [if_pos rfl] at H; exact H
     clear H
     have H := H1
     clear H1
     have HC12 := Aside0.mk H
     clear H
     go_upto_region 8 with (fail)
     go_cut [51] (fun v51 wc => ∃ (kq : Nat) (x51_11 : Bool), v51 = .bool x51_11 ∧ Aside0 (carillonref01_Decode.j2 kq x1_1 t252 t253 x9_1 x10_1 x51_11 = some (r1, r2)) ∧ Aside0 (kq ≤ kj5) ∧ Aside0 (Kd.R (Kd.int .i64) 3 wc w.heap.size (fun k_ => some k_ ≠ (v257 : Value).ownBlock) v255 t252) ∧ Aside0 (Kd.R (Kd.int .i64) 3 wc w.heap.size (fun k_ => some k_ ≠ (v255 : Value).ownBlock) v257 t253) ∧ Aside0 (Kd.R k50 50 wc w.heap.size (fun _ => True) u9 x9_1) ∧ Aside0 (Below w.heap.size w wc))
     case first =>
      have H := HC12.out
      clear HC12
      by_cases c13 : x10_1 ≥ (t252.length : Int); rotate_left
      ·rw [if_neg c13] at H
       have af : decide ((t252.length : Int) ≤ x10_1) = false := decide_eq_false c13
       clear c13
       (first | rw [af] | (simp only [i64_w, i32_w]; rw [af]) | skip)
       have H' := Aside0.mk H
       clear H
       obtain ⟨Ao20, co20, eo20⟩ := Kd.R_slice ab.out
       subst eo20
       go_wp2
       go_meet
       case rel => exact ⟨_, (false), (by first | rfl | (simp; done) | (simp [*]; done)), H', ⟨by have := HK1.out; have := HJ5.out; first | omega | exact Nat.le_refl _⟩, ⟨by (with_reducible repeat (first | apply Kd.R_alloc | apply Kd.R_drewN | apply Kd.R_drew)); exact ab.out⟩, ⟨by (with_reducible repeat (first | apply Kd.R_alloc | apply Kd.R_drewN | apply Kd.R_drew)); exact ad.out⟩, ⟨by (with_reducible repeat (first | apply Kd.R_alloc | apply Kd.R_drewN | apply Kd.R_drew)); exact ac.out⟩, ⟨bw⟩⟩
      rw [if_pos c13] at H
      have af : decide ((t252.length : Int) ≤ x10_1) = true := decide_eq_true c13
      clear c13
      (first | rw [af] | (simp only [i64_w, i32_w]; rw [af]) | skip)
      by_cases c14 : (t253.length : Int) = 0
      ·rw [if_pos c14] at H
       exact absurd H (by simp)
      rw [if_neg c14] at H
      have aq : ((t253.length : Int) == 0) = false := beq_eq_false_iff_ne.mpr c14
      have ar : ((t253.length : Int) != 0) = true := bne_iff_ne.mpr c14
      have au : ¬ (t253 = []) := fun h_ => c14 (by rw [h_]; rfl)
      by_cases c15 : (Int.tmod (wrap64 (x10_1 - (t252.length : Int))) (t253.length : Int)) = 0; rotate_left
      ·rw [if_neg c15] at H
       have ai : ((Int.tmod (wrap64 (x10_1 - (t252.length : Int))) (t253.length : Int)) == 0) = false := beq_eq_false_iff_ne.mpr c15
       have aj : ((Int.tmod (wrap64 (x10_1 - (t252.length : Int))) (t253.length : Int)) != 0) = true := bne_iff_ne.mpr c15
       have H' := Aside0.mk H
       clear H
       obtain ⟨Ao18, co18, eo18⟩ := Kd.R_slice ab.out
       subst eo18
       obtain ⟨Ao19, co19, eo19⟩ := Kd.R_slice ad.out
       subst eo19
       go_wp2
       go_meet
       case rel => exact ⟨_, (false), (by first | rfl | (simp; done) | (simp [*]; done)), H', ⟨by have := HK1.out; have := HJ5.out; first | omega | exact Nat.le_refl _⟩, ⟨by (with_reducible repeat (first | apply Kd.R_alloc | apply Kd.R_drewN | apply Kd.R_drew)); exact ab.out⟩, ⟨by (with_reducible repeat (first | apply Kd.R_alloc | apply Kd.R_drewN | apply Kd.R_drew)); exact ad.out⟩, ⟨by (with_reducible repeat (first | apply Kd.R_alloc | apply Kd.R_drewN | apply Kd.R_drew)); exact ac.out⟩, ⟨bw⟩⟩
      rw [if_pos c15] at H
      have ai : ((Int.tmod (wrap64 (x10_1 - (t252.length : Int))) (t253.length : Int)) == 0) = true := beq_iff_eq.mpr c15
      have aj : ((Int.tmod (wrap64 (x10_1 - (t252.length : Int))) (t253.length : Int)) != 0) = false := bne_eq_false_iff_eq.mpr c15
      clear c15
      have H' := Aside0.mk H
      clear H
      obtain ⟨Ao16, co16, eo16⟩ := Kd.R_slice ab.out
      subst eo16
      obtain ⟨Ao17, co17, eo17⟩ := Kd.R_slice ad.out
      subst eo17
      go_wp2
      go_meet
      case rel => exact ⟨_, ((x1_1.toList == ([] : List UInt8))), (by first | rfl | (simp; done) | (simp [*]; done)), H', ⟨by have := HK1.out; have := HJ5.out; first | omega | exact Nat.le_refl _⟩, ⟨by (with_reducible repeat (first | apply Kd.R_alloc | apply Kd.R_drewN | apply Kd.R_drew)); exact ab.out⟩, ⟨by (with_reducible repeat (first | apply Kd.R_alloc | apply Kd.R_drewN | apply Kd.R_drew)); exact ad.out⟩, ⟨by (with_reducible repeat (first | apply Kd.R_alloc | apply Kd.R_drewN | apply Kd.R_drew)); exact ac.out⟩, ⟨bw⟩⟩
     case rest =>
      clear HC12
      try clear c1
      try clear c2
      try clear p2
      try clear c4
      try clear p6
      try clear c7
      try clear ah
      try clear c11
      try clear c13
      try clear af
      try clear c14
      try clear aq
      try clear ar
      try clear au
      try clear c15
      try clear ai
      try clear aj
      try clear p2
      obtain ⟨kq, x51_11, rfl, HA, al, ab, ad, ac, HB⟩ := hcut
      cases kq with
      | zero => exact absurd HA.out (by simp [carillonref01_Decode.j2])
      | succ an =>
       have H := HA.out
       clear HA
       simp only [carillonref01_Decode.j2] at H
       by_cases c21 : x51_11 = true
       ·subst c21
        have H1 : (some (x9_1, 0)) = some (r1, r2) := by rw [if_pos rfl] at H; exact H
        clear H
        have H := H1
        clear H1
        simp only [Option.some.injEq, Prod.mk.injEq] at H
        obtain ⟨rfl, rfl⟩ := H
        go_wp2
        go_ret2
        exact ⟨_, er, by (with_reducible repeat (first | apply Kd.R_alloc | apply Kd.R_drewN | apply Kd.R_drew)); exact ac.out, bw⟩
       replace c21 := Bool.eq_false_iff.mpr c21
       subst c21
       have H1 : (if x10_1 < (t252.length : Int) then (if 0 ≤ x10_1 then (carillonref01_Decode.j3 an x1_1 t252 t253 x9_1 x10_1 (rd t252 x10_1)) else (none)) else (if (t253.length : Int) = 0 then (none) else (if 0 ≤ (Int.tmod (wrap64 (x10_1 - (t252.length : Int))) (t253.length : Int)) then (if (Int.tmod (wrap64 (x10_1 - (t252.length : Int))) (t253.length : Int)) < (t253.length : Int) then (carillonref01_Decode.j3 an x1_1 t252 t253 x9_1 x10_1 (rd t253 (Int.tmod (wrap64 (x10_1 - (t252.length : Int))) (t253.length : Int)))) else (none)) else (none)))) = some (r1, r2) := by rw [if_neg (show ¬ (false = true) by decide)] at H; exact H
       clear H
       have H := H1
       clear H1
       have HC22 := Aside0.mk H
       clear H
       obtain ⟨av, aw, eo23⟩ := Kd.R_slice ab.out
       subst eo23
       go_upto_if 56 with (fail)
       go_cut [11] (fun v11 wc => ∃ (kq : Nat) (x11_21 : Int), v11 = .int .i64 x11_21 ∧ Aside0 (carillonref01_Decode.j3 kq x1_1 t252 t253 x9_1 x10_1 x11_21 = some (r1, r2)) ∧ Aside0 (kq ≤ an) ∧ Aside0 (Kd.R (Kd.int .i64) 3 wc w.heap.size (fun k_ => some k_ ≠ (v257 : Value).ownBlock) (.slice av t252.length aw) t252) ∧ Aside0 (Kd.R (Kd.int .i64) 3 wc w.heap.size (fun k_ => some k_ ≠ ((.slice av t252.length aw) : Value).ownBlock) v257 t253) ∧ Aside0 (Kd.R k50 50 wc w.heap.size (fun _ => True) u9 x9_1) ∧ Aside0 (Below w.heap.size w wc))
       case first =>
        have H := HC22.out
        clear HC22
        by_cases c24 : x10_1 < (t252.length : Int)
        ·rw [if_pos c24] at H
         have ag : decide (x10_1 < (t252.length : Int)) = true := decide_eq_true c24
         clear c24
         (first | rw [ag] | (simp only [i64_w, i32_w]; rw [ag]) | skip)
         by_cases c25 : 0 ≤ x10_1; rotate_left
         ·rw [if_neg c25] at H
          exact absurd H (by simp)
         rw [if_pos c25] at H
         have c25b0 : decide (0 ≤ x10_1) = true := decide_eq_true c25
         clear c25
         have H' := Aside0.mk H
         clear H
         have p259 : 0 ≤ (x10_1 : Int) := od
         have q259 : x10_1 < (t252.length : Int) := od
         obtain ⟨ad259, e259, hx259_0⟩ := Kd.at_int (Kd.R_reads' ab.out).2.2 x10_1 p259 q259
         cases e259
         replace p259 := eq_true p259
         replace q259 := eq_true q259
         go_wp2
         go_meet
         case rel => exact ⟨_, (rd t252 x10_1), (by first | rfl | (simp; done) | (simp [*]; done)), H', ⟨by have := HK1.out; have := HJ5.out; have := al.out; first | omega | exact Nat.le_refl _⟩, ⟨by (with_reducible repeat (first | apply Kd.R_alloc | apply Kd.R_drewN | apply Kd.R_drew)); exact ab.out⟩, ⟨by (with_reducible repeat (first | apply Kd.R_alloc | apply Kd.R_drewN | apply Kd.R_drew)); exact ad.out⟩, ⟨by (with_reducible repeat (first | apply Kd.R_alloc | apply Kd.R_drewN | apply Kd.R_drew)); exact ac.out⟩, ⟨bw⟩⟩
        rw [if_neg c24] at H
        have ag : decide (x10_1 < (t252.length : Int)) = false := decide_eq_false c24
        clear c24
        (first | rw [ag] | (simp only [i64_w, i32_w]; rw [ag]) | skip)
        by_cases c26 : (t253.length : Int) = 0
        ·rw [if_pos c26] at H
         exact absurd H (by simp)
        rw [if_neg c26] at H
        have c26b0 : ((t253.length : Int) == 0) = false := beq_eq_false_iff_ne.mpr c26
        have c26b1 : ((t253.length : Int) != 0) = true := bne_iff_ne.mpr c26
        have c26b2 : ¬ (t253 = []) := fun h_ => c26 (by rw [h_]; rfl)
        obtain ⟨ji27, hji27⟩ : ∃ j_ : Int, (Int.tmod (wrap64 (x10_1 - (t252.length : Int))) (t253.length : Int)) = j_ := ⟨_, rfl⟩
        replace H : (if 0 ≤ (ji27) then (if (ji27) < (t253.length : Int) then (carillonref01_Decode.j3 an x1_1 t252 t253 x9_1 x10_1 (rd t253 (ji27))) else (none)) else (none)) = some (r1, r2) := by first | (rw [hji27] at H; exact H) | (simp only [hji27] at H ⊢; exact H)
        by_cases c28 : 0 ≤ (ji27); rotate_left
        ·rw [if_neg c28] at H
         exact absurd H (by simp)
        rw [if_pos c28] at H
        have c28b0 : decide (0 ≤ (ji27)) = true := decide_eq_true c28
        clear c28
        by_cases c29 : (ji27) < (t253.length : Int); rotate_left
        ·rw [if_neg c29] at H
         exact absurd H (by simp)
        rw [if_pos c29] at H
        have c29b0 : decide ((ji27) < (t253.length : Int)) = true := decide_eq_true c29
        clear c29
        have H' := Aside0.mk H
        clear H
        obtain ⟨Ao30, co30, eo30⟩ := Kd.R_slice ad.out
        subst eo30
        have p260 : 0 ≤ ((ji27) : Int) := od
        have q260 : (ji27) < (t253.length : Int) := od
        obtain ⟨ad260, e260, hx260_0⟩ := Kd.at_int (Kd.R_reads' ad.out).2.2 (ji27) p260 q260
        cases e260
        replace p260 := eq_true p260
        replace q260 := eq_true q260
        go_wp2
        go_meet
        case rel => (try rw [hji27]); exact ⟨_, (rd t253 (ji27)), (by first | rfl | (simp; done) | (simp only [← hji27] <;> (first | rfl | simp)) | (simp [*]; done)), H', ⟨by have := HK1.out; have := HJ5.out; have := al.out; first | omega | exact Nat.le_refl _⟩, ⟨by (with_reducible repeat (first | apply Kd.R_alloc | apply Kd.R_drewN | apply Kd.R_drew)); exact ab.out⟩, ⟨by (with_reducible repeat (first | apply Kd.R_alloc | apply Kd.R_drewN | apply Kd.R_drew)); exact ad.out⟩, ⟨by (with_reducible repeat (first | apply Kd.R_alloc | apply Kd.R_drewN | apply Kd.R_drew)); exact ac.out⟩, ⟨bw⟩⟩
       case rest =>
        clear HC22
        try clear c1
        try clear c2
        try clear p2
        try clear q2
        try clear hx2
        try clear c4
        try clear p6
        try clear c7
        try clear ah
        try clear c11
        try clear c13
        try clear af
        try clear c14
        try clear aq
        try clear ar
        try clear au
        try clear c15
        try clear ai
        try clear aj
        try clear c21
        try clear c24
        try clear ag
        try clear c25
        try clear c25b0
        try clear p25
        try clear q25
        try clear hx25
        try clear c26
        try clear c26b0
        try clear c26b1
        try clear c26b2
        try clear p26
        try clear q26
        try clear hx26
        try clear c28
        try clear c28b0
        try clear c29
        try clear c29b0
        try clear hx259_0
        try clear hx260_0
        try clear p2
        try clear p259
        try clear p260
        try clear p6
        try clear q259
        try clear q260
        obtain ⟨kq, x11_21, rfl, HA, ax, ab, ad, ac, HB⟩ := hcut
        cases kq with
        | zero => exact absurd HA.out (by simp [carillonref01_Decode.j3])
        | succ ak =>
         have H := HA.out
         clear HA
         simp only [carillonref01_Decode.j3] at H
         by_cases c31 : (x9_1.length : Int) = 1000
         ·rw [if_pos c31] at H
          have c31b0 : ((x9_1.length : Int) == 1000) = true := beq_iff_eq.mpr c31
          have c31b1 : ((x9_1.length : Int) != 1000) = false := bne_eq_false_iff_eq.mpr c31
          clear c31
          simp only [Option.some.injEq, Prod.mk.injEq] at H
          obtain ⟨rfl, rfl⟩ := H
          obtain ⟨Ao32, co32, eo32⟩ := Kd.R_slice ac.out
          subst eo32
          go_wp2
          go_ret2
          exact ⟨_, er, by first | exact Kd.R_nil _ _ _ _ _ | exact Kd.N_nil _ _ _ _ _ | exact Kd.V_nil _ _ _ _ _ | exact Kd.Q_nil _ _ _ _ _ | exact Kd.S_nil _ _ _ _ _, bw⟩
         rw [if_neg c31] at H
         have c31b0 : ((x9_1.length : Int) == 1000) = false := beq_eq_false_iff_ne.mpr c31
         have c31b1 : ((x9_1.length : Int) != 1000) = true := bne_iff_ne.mpr c31
         replace H := Option.bind_eq_some_iff.mp H
         obtain ⟨⟨t261, t262, t263, t264, t265⟩, A330, H⟩ := H
         replace H : (if t265 = 0 then (if x9_1.length < 4398046511104 then (if 0 ≤ t264 then (if t264 ≤ (x1_1.size : Int) then (carillonref01_Decode.l0 ak (x1_1.extract (t264 : Int).toNat x1_1.size) t252 t253 (x9_1 ++ [(⟨t261, t262, t263⟩ : S50)]) (wrap64 (x10_1 + 1))) else (none)) else (none)) else (none)) else (some (([] : List (S50)), t265))) = some (r1, r2) := H
         have A33 := Aside0.mk A330
         clear A330
         by_cases c34 : t265 = 0; rotate_left
         ·rw [if_neg c34] at H
          have c34b0 : (t265 == 0) = false := beq_eq_false_iff_ne.mpr c34
          have c34b1 : (t265 != 0) = true := bne_iff_ne.mpr c34
          simp only [Option.some.injEq, Prod.mk.injEq] at H
          obtain ⟨rfl, rfl⟩ := H
          obtain ⟨Ao43, co43, eo43⟩ := Kd.R_slice ac.out
          subst eo43
          go_wp2_with (first | ((with_reducible refine gate_callee (f := 43) rfl ?_); refine goesL_ (some 77) rfl rfl Tryd.func43 (by kernel_rfl) rfl #[.int .i64 x11_21, .string x1_1] rfl am ?_; (with_reducible refine (carillonref01_take.calls ak x11_21 x1_1 t261 t262 t263 t264 t265 _ A33.out).mono ?_); rintro e w44 ⟨rfl, hb⟩; refine ⟨_, rfl, ?_⟩; have n0_ := Aside0.mk (Kd.R_below (by (with_reducible repeat (first | apply Kd.R_alloc | apply Kd.R_drewN | apply Kd.R_drew)); exact ab.out) hb); have n1_ := Aside0.mk (Kd.R_below (by (with_reducible repeat (first | apply Kd.R_alloc | apply Kd.R_drewN | apply Kd.R_drew)); exact ad.out) hb); have n2_ := Aside0.mk (Kd.R_below (by (with_reducible repeat (first | apply Kd.R_alloc | apply Kd.R_drewN | apply Kd.R_drew)); exact ac.out) hb); have n3_ := Aside0.mk (below_step bw hb); clear ab; clear ad; clear ac; clear HB; have ab := n0_; have ad := n1_; have ac := n2_; have HB := n3_; clear n0_ n1_ n2_ n3_; (try clear hb)) | ((with_reducible refine gate_dst (N := 12) rfl ?_); (try (refine gate_guard (by rfl) ?_; dsimp only)); refine box_event ?hg (N := 12) ?hd (cs := #[.int .i64 0, .int .u64 0, .string (⟨#[]⟩ : ByteArray)]) (t := 50) ?hr ?_; (case hd => rfl); (case hg => rfl); (case hr => first | (go_simp; done) | (go_simp; rfl)); intro aa hg w45 hbox hb; have n0_ := Aside0.mk (Kd.R_below (by (with_reducible repeat (first | apply Kd.R_alloc | apply Kd.R_drewN | apply Kd.R_drew)); exact ab.out) hb); have n1_ := Aside0.mk (Kd.R_below (by (with_reducible repeat (first | apply Kd.R_alloc | apply Kd.R_drewN | apply Kd.R_drew)); exact ad.out) hb); have n2_ := Aside0.mk (Kd.R_below (Kd.R_elderB (by (with_reducible repeat (first | apply Kd.R_alloc | apply Kd.R_drewN | apply Kd.R_drew)); exact ac.out) aa (Nat.le_of_eq hg.symm)) hb); have n3_ := Aside0.mk (below_step bw hb); have n4_ := Aside0.mk (hbox); have n5_ := Aside0.mk ((g1 hg bw : w.heap.size ≤ aa)); have n6_ := Aside0.mk ((g1 hg bw : w.heap.size ≤ aa)); clear ab; clear ad; clear ac; clear HB; have ab := n0_; have ad := n1_; have ac := n2_; have HB := n3_; have ae := n4_; have GW266 := n5_; have GE266 := n6_; clear n0_ n1_ n2_ n3_ n4_ n5_ n6_; clear hb hbox hg; obtain ⟨hcz46_0, hcz46_1, hcz46_2, hfz46_0, hfz46_1, hfz46_2⟩ := bx3 ae.out))
          go_ret2
          exact ⟨_, er, by first | exact Kd.R_nil _ _ _ _ _ | exact Kd.N_nil _ _ _ _ _ | exact Kd.V_nil _ _ _ _ _ | exact Kd.Q_nil _ _ _ _ _ | exact Kd.S_nil _ _ _ _ _, bw⟩
         rw [if_pos c34] at H
         have c34b0 : (t265 == 0) = true := beq_iff_eq.mpr c34
         have c34b1 : (t265 != 0) = false := bne_eq_false_iff_eq.mpr c34
         clear c34
         by_cases c35 : x9_1.length < 4398046511104; rotate_left
         ·rw [if_neg c35] at H
          exact absurd H (by simp)
         rw [if_pos c35] at H
         have LMc35 := Aside0.mk c35
         clear c35
         obtain ⟨y267, hy267⟩ : ∃ y_ : List (S50), y_ = (x9_1 ++ [(⟨t261, t262, t263⟩ : S50)]) := ⟨_, rfl⟩
         replace H : (if 0 ≤ t264 then (if t264 ≤ (x1_1.size : Int) then (carillonref01_Decode.l0 ak (x1_1.extract (t264 : Int).toNat x1_1.size) t252 t253 y267 (wrap64 (x10_1 + 1))) else (none)) else (none)) = some (r1, r2) := by first | (rw [hy267]; with_reducible exact H) | (have H2_ := (Option.bind_some _ _).symm.trans H; rw [hy267]; with_reducible exact H2_) | (have H2_ := (Option.bind_some _ _).symm.trans H; with_reducible exact H2_) | with_reducible exact H | (rw [hy267]; exact H) | exact H
         have Ny267 := Aside0.mk hy267
         clear hy267
         by_cases c36 : 0 ≤ t264; rotate_left
         ·rw [if_neg c36] at H
          exact absurd H (by simp)
         rw [if_pos c36] at H
         have c36b0 := eq_true c36
         have c36b1 : decide (0 ≤ t264) = true := decide_eq_true c36
         clear c36
         by_cases c37 : t264 ≤ (x1_1.size : Int); rotate_left
         ·rw [if_neg c37] at H
          exact absurd H (by simp)
         rw [if_pos c37] at H
         have c37b0 := eq_true c37
         have c37b1 : decide (t264 ≤ (x1_1.size : Int)) = true := decide_eq_true c37
         clear c37
         have H' := Aside0.mk H
         clear H
         obtain ⟨Ao38, co38, eo38⟩ := Kd.R_slice ac.out
         subst eo38
         go_wp2_with (first | ((with_reducible refine gate_callee (f := 43) rfl ?_); refine goesL_ (some 77) rfl rfl Tryd.func43 (by kernel_rfl) rfl #[.int .i64 x11_21, .string x1_1] rfl am ?_; (with_reducible refine (carillonref01_take.calls ak x11_21 x1_1 t261 t262 t263 t264 t265 _ A33.out).mono ?_); rintro e w39 ⟨rfl, hb⟩; refine ⟨_, rfl, ?_⟩; have n0_ := Aside0.mk (Kd.R_below (by (with_reducible repeat (first | apply Kd.R_alloc | apply Kd.R_drewN | apply Kd.R_drew)); exact ab.out) hb); have n1_ := Aside0.mk (Kd.R_below (by (with_reducible repeat (first | apply Kd.R_alloc | apply Kd.R_drewN | apply Kd.R_drew)); exact ad.out) hb); have n2_ := Aside0.mk (Kd.R_below (by (with_reducible repeat (first | apply Kd.R_alloc | apply Kd.R_drewN | apply Kd.R_drew)); exact ac.out) hb); have n3_ := Aside0.mk (below_step bw hb); clear ab; clear ad; clear ac; clear HB; have ab := n0_; have ad := n1_; have ac := n2_; have HB := n3_; clear n0_ n1_ n2_ n3_; (try clear hb)) | ((with_reducible refine gate_dst (N := 12) rfl ?_); (try (refine gate_guard (by rfl) ?_; dsimp only)); refine box_event ?hg (N := 12) ?hd (cs := #[.int .i64 0, .int .u64 0, .string (⟨#[]⟩ : ByteArray)]) (t := 50) ?hr ?_; (case hd => rfl); (case hg => rfl); (case hr => first | (go_simp; done) | (go_simp; rfl)); intro aa hg w40 hbox hb; have n0_ := Aside0.mk (Kd.R_below (by (with_reducible repeat (first | apply Kd.R_alloc | apply Kd.R_drewN | apply Kd.R_drew)); exact ab.out) hb); have n1_ := Aside0.mk (Kd.R_below (by (with_reducible repeat (first | apply Kd.R_alloc | apply Kd.R_drewN | apply Kd.R_drew)); exact ad.out) hb); have n2_ := Aside0.mk (Kd.R_below (Kd.R_elderB (by (with_reducible repeat (first | apply Kd.R_alloc | apply Kd.R_drewN | apply Kd.R_drew)); exact ac.out) aa (Nat.le_of_eq hg.symm)) hb); have n3_ := Aside0.mk (below_step bw hb); have n4_ := Aside0.mk (hbox); have n5_ := Aside0.mk ((g1 hg bw : w.heap.size ≤ aa)); have n6_ := Aside0.mk ((g1 hg bw : w.heap.size ≤ aa)); clear ab; clear ad; clear ac; clear HB; have ab := n0_; have ad := n1_; have ac := n2_; have HB := n3_; have ae := n4_; have GW266 := n5_; have GE266 := n6_; clear n0_ n1_ n2_ n3_ n4_ n5_ n6_; clear hb hbox hg; obtain ⟨hcz41_0, hcz41_1, hcz41_2, hfz41_0, hfz41_1, hfz41_2⟩ := bx3 ae.out) | ((with_reducible refine gate_builtin (b := .append) (xs := #[.tmp 84, .tmp 86]) rfl ?_); (try (refine gate_guard (by rfl) ?_; dsimp only)); at_builtin; refine Kd.R_append k50 (w0 := w) w.heap.size rfl (.tmp 84) (.tmp 86) 46 50 (.agg #[(.int .i64 0), (.int .u64 0), (.string ⟨#[]⟩)]) 32 rfl Tryd.underlying46 info50 rfl (by decide) (by omega) (.slice Ao38 x9_1.length co38) x9_1 (⟨t261, t262, t263⟩ : S50) [.int .i64 t261, .int .u64 t262, .string t263] (fun k_ => k_ ≠ aa) (fun _ => False) rfl (by first | (go_simp; done) | (go_simp; rfl)) ?aP (fun _ hk => hk.elim) ?aF ?aO ?aB ?aS ?aL ?_; (case aP => exact k50_mkM _ _ _ (⟨t261, t262, t263⟩ : S50)); (case aB => exact bw); (case aF => exact (fun k_ hk => Kd.freshB (g := aa) (o := .cells #[.int .i64 t261, .int .u64 t262, .string t263] 50 (0, 0)) (by (with_reducible repeat (first | refine blk_drewN ?_ _ | refine blk_drew ?_ | refine blk_alloc ?_ _)); refine blk_put (cs := #[.int .i64 t261, .int .u64 t262, .string (⟨#[]⟩ : ByteArray)]) ?_ 2 _ rfl; (with_reducible repeat (first | refine blk_drewN ?_ _ | refine blk_drew ?_ | refine blk_alloc ?_ _)); refine blk_put (cs := #[.int .i64 t261, .int .u64 0, .string (⟨#[]⟩ : ByteArray)]) ?_ 1 _ rfl; (with_reducible repeat (first | refine blk_drewN ?_ _ | refine blk_drew ?_ | refine blk_alloc ?_ _)); refine blk_put (cs := #[.int .i64 0, .int .u64 0, .string (⟨#[]⟩ : ByteArray)]) ?_ 0 _ rfl; (with_reducible repeat (first | refine blk_drewN ?_ _ | refine blk_drew ?_ | refine blk_alloc ?_ _)); exact ae.out) k_ hk)); (case aO => exact (by (with_reducible repeat (first | apply Kd.R_alloc | apply Kd.R_drewN | apply Kd.R_drew)); exact Kd.R_mono (Kd.R_far (p := ⟨aa, 2, none⟩) (Kd.R_far (p := ⟨aa, 1, none⟩) (Kd.R_far (p := ⟨aa, 0, none⟩) (Kd.R_mono ac.out (fun k_ hk => (⟨hk, hk.2⟩ : _ ∧ k_ ≠ aa))) (fun _ hk => hk.2) (.int .i64 t261)) (fun _ hk => hk.2) (.int .u64 t262)) (fun _ hk => hk.2) (.string t263)) (fun _ hk => hk.1.2))); (case aS => exact (below_size bw)); (case aL => have := LMc35.out; omega); intro v268 w42 ho hb hg hat; rw [← Ny267.out] at ho; have n0_ := Aside0.mk (Kd.R_over' (by (with_reducible repeat (first | apply Kd.R_alloc | apply Kd.R_drewN | apply Kd.R_drew)); exact (Kd.R_mono (Kd.R_far (p := ⟨aa, 2, none⟩) (Kd.R_far (p := ⟨aa, 1, none⟩) (Kd.R_far (p := ⟨aa, 0, none⟩) (Kd.R_types ab.out ae.out (by decide)) (fun _ hk => hk.2) (.int .i64 t261)) (fun _ hk => hk.2) (.int .u64 t262)) (fun _ hk => hk.2) (.string t263)) (fun _ h_ => h_.1))) (Kd.R_typed (by (with_reducible repeat (first | apply Kd.R_alloc | apply Kd.R_drewN | apply Kd.R_drew)); exact (Kd.R_mono (Kd.R_far (p := ⟨aa, 2, none⟩) (Kd.R_far (p := ⟨aa, 1, none⟩) (Kd.R_far (p := ⟨aa, 0, none⟩) (Kd.R_mono ac.out (fun k_ hk => (⟨hk, hk.2⟩ : _ ∧ k_ ≠ aa))) (fun _ hk => hk.2) (.int .i64 t261)) (fun _ hk => hk.2) (.int .u64 t262)) (fun _ hk => hk.2) (.string t263)) (fun _ h_ => h_.1)))) (by decide) hg); have n1_ := Aside0.mk (Kd.R_over' (by (with_reducible repeat (first | apply Kd.R_alloc | apply Kd.R_drewN | apply Kd.R_drew)); exact (Kd.R_mono (Kd.R_far (p := ⟨aa, 2, none⟩) (Kd.R_far (p := ⟨aa, 1, none⟩) (Kd.R_far (p := ⟨aa, 0, none⟩) (Kd.R_types ad.out ae.out (by decide)) (fun _ hk => hk.2) (.int .i64 t261)) (fun _ hk => hk.2) (.int .u64 t262)) (fun _ hk => hk.2) (.string t263)) (fun _ h_ => h_.1))) (Kd.R_typed (by (with_reducible repeat (first | apply Kd.R_alloc | apply Kd.R_drewN | apply Kd.R_drew)); exact (Kd.R_mono (Kd.R_far (p := ⟨aa, 2, none⟩) (Kd.R_far (p := ⟨aa, 1, none⟩) (Kd.R_far (p := ⟨aa, 0, none⟩) (Kd.R_mono ac.out (fun k_ hk => (⟨hk, hk.2⟩ : _ ∧ k_ ≠ aa))) (fun _ hk => hk.2) (.int .i64 t261)) (fun _ hk => hk.2) (.int .u64 t262)) (fun _ hk => hk.2) (.string t263)) (fun _ h_ => h_.1)))) (by decide) hg); have n2_ := Aside0.mk (blk_grown (g := aa) (o := .cells #[.int .i64 t261, .int .u64 t262, .string t263] 50 (0, 0)) (by (with_reducible repeat (first | refine blk_drewN ?_ _ | refine blk_drew ?_ | refine blk_alloc ?_ _)); refine blk_put (cs := #[.int .i64 t261, .int .u64 t262, .string (⟨#[]⟩ : ByteArray)]) ?_ 2 _ rfl; (with_reducible repeat (first | refine blk_drewN ?_ _ | refine blk_drew ?_ | refine blk_alloc ?_ _)); refine blk_put (cs := #[.int .i64 t261, .int .u64 0, .string (⟨#[]⟩ : ByteArray)]) ?_ 1 _ rfl; (with_reducible repeat (first | refine blk_drewN ?_ _ | refine blk_drew ?_ | refine blk_alloc ?_ _)); refine blk_put (cs := #[.int .i64 0, .int .u64 0, .string (⟨#[]⟩ : ByteArray)]) ?_ 0 _ rfl; (with_reducible repeat (first | refine blk_drewN ?_ _ | refine blk_drew ?_ | refine blk_alloc ?_ _)); exact ae.out) hg (Kd.R_away ac.out (fun _ hk => hk.2))); have n3_ := Aside0.mk (hb); have n4_ := Aside0.mk (ho); clear ab; clear ad; clear ae; clear HB; clear ac; have ab := n0_; have ad := n1_; have ae := n2_; have HB := n3_; have HO269 := n4_; clear n0_ n1_ n2_ n3_ n4_; clear ho hb hg hat))
         go_roundg ak
         case measure => have := HK1.out; have := HJ5.out; have := al.out; have := ax.out; omega
         case rel => exact ⟨(x1_1.extract (t264 : Int).toNat x1_1.size), (y267), (wrap64 (x10_1 + 1)), (by first | rfl | (simp; done) | (simp [*]; done)), (by first | rfl | (simp; done) | (simp [*]; done)), H', ⟨by have := HK1.out; have := HJ5.out; have := al.out; have := ax.out; omega⟩, ⟨by (with_reducible repeat (first | apply Kd.R_alloc | apply Kd.R_drewN | apply Kd.R_drew)); exact ab.out⟩, ⟨by (with_reducible repeat (first | apply Kd.R_alloc | apply Kd.R_drewN | apply Kd.R_drew)); exact ad.out⟩, ⟨by (with_reducible repeat (first | apply Kd.R_alloc | apply Kd.R_drewN | apply Kd.R_drew)); exact Kd.R_mono HO269.out (fun _ hk => trivial)⟩, ⟨bw⟩⟩

end Go.Proofs.YtdpogggajdfedaaDoor.P
