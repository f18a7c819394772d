-- Printed by this session's program wip/xp.py (a turned copy of the kit's printer): functions, their contracts.
import Derived.Test.YtkcooehlahifkaaDoorPx0
import Derived.Test.YtkcooehlahifkaaDoorPx1
import Derived.Test.YtkcooehlahifkaaDoorPx3
namespace Go.Proofs.YtkcooehlahifkaaDoor.P
open Go.RowKit Go.Proofs.YtkcooehlahifkaaDoorW.PrintWords Go.Proofs.YtkcooehlahifkaaDoorW.PrintLast Go.Proofs.YtkcooehlahifkaaDoorW.PrintMore
attribute [local go_sem] max2_int min2_int max_two min_two max_three min_three max_four min_four   -- for this text's walks alone
set_option linter.unusedVariables false
set_option linter.unusedSimpArgs false

/-! ### carillonlaw02_CrcTorn: function 8 -/
mutual
def carillonlaw02_CrcTorn.l0 : Nat → List ByteArray → Int → Bool → ByteArray → List Int → Int → Option (Bool)
  | 0, _, _, _, _, _, _ => none
  | k + 1, x0, x1, x5, x6, x7, x8 => if x8 < (x0.length : Int) then (carillonlaw02_CrcTorn.j1 k x0 x1 x5 x6 x7 x8 (decide (x8 < 50))) else (carillonlaw02_CrcTorn.j1 k x0 x1 x5 x6 x7 x8 false)
def carillonlaw02_CrcTorn.j1 : Nat → List ByteArray → Int → Bool → ByteArray → List Int → Int → Bool → Option (Bool)
  | 0, _, _, _, _, _, _, _ => none
  | k + 1, x0, x1, x5, x6, x7, x8, x25 => if x25 = true then (if 0 ≤ x8 then (if x8 < (x0.length : Int) then ((crc_Frame.f (rdOf ByteArray.empty x0 x8)).bind fun bt192 => (if bt192.2 = 0 then (if x6.size + bt192.1.size ≤ 9223372036854775807 then (if x7.length < 17592186044416 then (carillonlaw02_CrcTorn.l0 k x0 x1 x5 (x6 ++ bt192.1) (x7 ++ [(x6.size : Int) + (bt192.1.size : Int)]) (wrap64 (x8 + 1))) else (none)) else (none)) else (some x5))) else (none)) else (none)) else (if x1 < 0 then (carillonlaw02_CrcTorn.j2 k x0 (wrap64 (-(wrap64 (x1 + 1)))) x5 x6 x7) else (carillonlaw02_CrcTorn.j2 k x0 x1 x5 x6 x7))
def carillonlaw02_CrcTorn.j2 : Nat → List ByteArray → Int → Bool → ByteArray → List Int → Option (Bool)
  | 0, _, _, _, _, _ => none
  | k + 1, x0, x1, x5, x6, x7 => if (wrap64 ((x6.size : Int) + 1)) = 0 then (none) else (carillonlaw02_CrcTorn.l1 k x0 (Int.tmod x1 (wrap64 ((x6.size : Int) + 1))) x5 x6 x7 0)
def carillonlaw02_CrcTorn.j4 : Nat → List ByteArray → Int → Bool → ByteArray → List Int → Int → Option (Bool)
  | 0, _, _, _, _, _, _ => none
  | k + 1, x0, x1, x5, x6, x7, x11 => if x11 > 0 then (if 0 ≤ (wrap64 (x11 - 1)) then (if (wrap64 (x11 - 1)) < (x7.length : Int) then (if 0 ≤ x1 then (if x1 ≤ (x6.size : Int) then ((crc_All.f k (x6.extract 0 (x1 : Int).toNat)).bind fun bt199 => (if 0 ≤ x11 then (if x11 ≤ (x0.length : Int) then ((carillonlaw02_texts.f k bt199.1 (x0.take (x11 : Int).toNat)).bind fun t205 => (if x5 = true then (if t205 = true then (if bt199.2.1 = (rd x7 (wrap64 (x11 - 1))) then (if ((bt199.2.2 == 0) == ((rd x7 (wrap64 (x11 - 1))) == x1)) = true then (if bt199.2.2 = 0 then (some true) else (some (bt199.2.2 == 2))) else (some false)) else (some false)) else (some false)) else (some false))) else (none)) else (none))) else (none)) else (none)) else (none)) else (none)) else (if 0 ≤ x1 then (if x1 ≤ (x6.size : Int) then ((crc_All.f k (x6.extract 0 (x1 : Int).toNat)).bind fun bt206 => (if 0 ≤ x11 then (if x11 ≤ (x0.length : Int) then ((carillonlaw02_texts.f k bt206.1 (x0.take (x11 : Int).toNat)).bind fun t212 => (if x5 = true then (if t212 = true then (if bt206.2.1 = 0 then (if ((bt206.2.2 == 0) == (0 == x1)) = true then (if bt206.2.2 = 0 then (some true) else (some (bt206.2.2 == 2))) else (some false)) else (some false)) else (some false)) else (some false))) else (none)) else (none))) else (none)) else (none))
def carillonlaw02_CrcTorn.l1 : Nat → List ByteArray → Int → Bool → ByteArray → List Int → Int → Option (Bool)
  | 0, _, _, _, _, _, _ => none
  | k + 1, x0, x1, x5, x6, x7, x11 => if x11 < (x7.length : Int) then (if 0 ≤ x11 then (if (rd x7 x11) ≤ x1 then (carillonlaw02_CrcTorn.l1 k x0 x1 x5 x6 x7 (wrap64 (x11 + 1))) else (carillonlaw02_CrcTorn.j4 k x0 x1 x5 x6 x7 x11)) else (none)) else (carillonlaw02_CrcTorn.j4 k x0 x1 x5 x6 x7 x11)
end
def carillonlaw02_CrcTorn.f (k : Nat) (l0 : List ByteArray) (a1 : Int) : Option (Bool) := (carillonlaw02_examples.f).bind fun t190 => (carillonlaw02_CrcTorn.l0 k l0 a1 t190 (⟨#[]⟩ : ByteArray) ([] : List Int) 0)
theorem carillonlaw02_CrcTorn.mono_l : ∀ k, (∀ y0 y1 y2 y3 y4 y5, LeO (carillonlaw02_CrcTorn.l0 k y0 y1 y2 y3 y4 y5) (carillonlaw02_CrcTorn.l0 (k + 1) y0 y1 y2 y3 y4 y5)) ∧ (∀ y0 y1 y2 y3 y4 y5 y6, LeO (carillonlaw02_CrcTorn.j1 k y0 y1 y2 y3 y4 y5 y6) (carillonlaw02_CrcTorn.j1 (k + 1) y0 y1 y2 y3 y4 y5 y6)) ∧ (∀ y0 y1 y2 y3 y4, LeO (carillonlaw02_CrcTorn.j2 k y0 y1 y2 y3 y4) (carillonlaw02_CrcTorn.j2 (k + 1) y0 y1 y2 y3 y4)) ∧ (∀ y0 y1 y2 y3 y4 y5, LeO (carillonlaw02_CrcTorn.j4 k y0 y1 y2 y3 y4 y5) (carillonlaw02_CrcTorn.j4 (k + 1) y0 y1 y2 y3 y4 y5)) ∧ (∀ y0 y1 y2 y3 y4 y5, LeO (carillonlaw02_CrcTorn.l1 k y0 y1 y2 y3 y4 y5) (carillonlaw02_CrcTorn.l1 (k + 1) y0 y1 y2 y3 y4 y5))
  | 0 => ⟨fun _ _ _ _ _ _ r h => by simp [carillonlaw02_CrcTorn.l0] at h, fun _ _ _ _ _ _ _ r h => by simp [carillonlaw02_CrcTorn.j1] at h, fun _ _ _ _ _ r h => by simp [carillonlaw02_CrcTorn.j2] at h, fun _ _ _ _ _ _ r h => by simp [carillonlaw02_CrcTorn.j4] at h, fun _ _ _ _ _ _ r h => by simp [carillonlaw02_CrcTorn.l1] at h⟩
  | k + 1 => by
    obtain ⟨ih0, ih1, ih2, ih3, ih4⟩ := carillonlaw02_CrcTorn.mono_l k
    refine ⟨?_, ?_, ?_, ?_, ?_⟩
    · intro y0 y1 y2 y3 y4 y5
      unfold carillonlaw02_CrcTorn.l0
      repeat' first
      | (with_reducible exact ih0 _ _ _ _ _ _)
      | (with_reducible exact ih1 _ _ _ _ _ _ _)
      | (with_reducible exact ih2 _ _ _ _ _)
      | (with_reducible exact ih3 _ _ _ _ _ _)
      | (with_reducible exact ih4 _ _ _ _ _ _)
      | (with_reducible exact carillonlaw02_texts.mono _ _ _)
      | (with_reducible exact crc_All.mono _ _)
      | (with_reducible exact LeO.refl _)
      | (with_reducible exact LeO.none _)
      | (with_reducible refine LeO.ite ?_ ?_)
      | (with_reducible refine LeO.bind ?_ (fun _ => ?_))
      | exact ih0 _ _ _ _ _ _
      | exact ih1 _ _ _ _ _ _ _
      | exact ih2 _ _ _ _ _
      | exact ih3 _ _ _ _ _ _
      | exact ih4 _ _ _ _ _ _
      | exact carillonlaw02_texts.mono _ _ _
      | exact crc_All.mono _ _
      | exact LeO.none _
      | refine LeO.ite ?_ ?_
      | refine LeO.bind ?_ (fun _ => ?_)
    · intro y0 y1 y2 y3 y4 y5 y6
      unfold carillonlaw02_CrcTorn.j1
      repeat' first
      | (with_reducible exact ih0 _ _ _ _ _ _)
      | (with_reducible exact ih1 _ _ _ _ _ _ _)
      | (with_reducible exact ih2 _ _ _ _ _)
      | (with_reducible exact ih3 _ _ _ _ _ _)
      | (with_reducible exact ih4 _ _ _ _ _ _)
      | (with_reducible exact carillonlaw02_texts.mono _ _ _)
      | (with_reducible exact crc_All.mono _ _)
      | (with_reducible exact LeO.refl _)
      | (with_reducible exact LeO.none _)
      | (with_reducible refine LeO.ite ?_ ?_)
      | (with_reducible refine LeO.bind ?_ (fun _ => ?_))
      | exact ih0 _ _ _ _ _ _
      | exact ih1 _ _ _ _ _ _ _
      | exact ih2 _ _ _ _ _
      | exact ih3 _ _ _ _ _ _
      | exact ih4 _ _ _ _ _ _
      | exact carillonlaw02_texts.mono _ _ _
      | exact crc_All.mono _ _
      | exact LeO.none _
      | refine LeO.ite ?_ ?_
      | refine LeO.bind ?_ (fun _ => ?_)
    · intro y0 y1 y2 y3 y4
      unfold carillonlaw02_CrcTorn.j2
      repeat' first
      | (with_reducible exact ih0 _ _ _ _ _ _)
      | (with_reducible exact ih1 _ _ _ _ _ _ _)
      | (with_reducible exact ih2 _ _ _ _ _)
      | (with_reducible exact ih3 _ _ _ _ _ _)
      | (with_reducible exact ih4 _ _ _ _ _ _)
      | (with_reducible exact carillonlaw02_texts.mono _ _ _)
      | (with_reducible exact crc_All.mono _ _)
      | (with_reducible exact LeO.refl _)
      | (with_reducible exact LeO.none _)
      | (with_reducible refine LeO.ite ?_ ?_)
      | (with_reducible refine LeO.bind ?_ (fun _ => ?_))
      | exact ih0 _ _ _ _ _ _
      | exact ih1 _ _ _ _ _ _ _
      | exact ih2 _ _ _ _ _
      | exact ih3 _ _ _ _ _ _
      | exact ih4 _ _ _ _ _ _
      | exact carillonlaw02_texts.mono _ _ _
      | exact crc_All.mono _ _
      | exact LeO.none _
      | refine LeO.ite ?_ ?_
      | refine LeO.bind ?_ (fun _ => ?_)
    · intro y0 y1 y2 y3 y4 y5
      unfold carillonlaw02_CrcTorn.j4
      repeat' first
      | (with_reducible exact ih0 _ _ _ _ _ _)
      | (with_reducible exact ih1 _ _ _ _ _ _ _)
      | (with_reducible exact ih2 _ _ _ _ _)
      | (with_reducible exact ih3 _ _ _ _ _ _)
      | (with_reducible exact ih4 _ _ _ _ _ _)
      | (with_reducible exact carillonlaw02_texts.mono _ _ _)
      | (with_reducible exact crc_All.mono _ _)
      | (with_reducible exact LeO.refl _)
      | (with_reducible exact LeO.none _)
      | (with_reducible refine LeO.ite ?_ ?_)
      | (with_reducible refine LeO.bind ?_ (fun _ => ?_))
      | exact ih0 _ _ _ _ _ _
      | exact ih1 _ _ _ _ _ _ _
      | exact ih2 _ _ _ _ _
      | exact ih3 _ _ _ _ _ _
      | exact ih4 _ _ _ _ _ _
      | exact carillonlaw02_texts.mono _ _ _
      | exact crc_All.mono _ _
      | exact LeO.none _
      | refine LeO.ite ?_ ?_
      | refine LeO.bind ?_ (fun _ => ?_)
    · intro y0 y1 y2 y3 y4 y5
      unfold carillonlaw02_CrcTorn.l1
      repeat' first
      | (with_reducible exact ih0 _ _ _ _ _ _)
      | (with_reducible exact ih1 _ _ _ _ _ _ _)
      | (with_reducible exact ih2 _ _ _ _ _)
      | (with_reducible exact ih3 _ _ _ _ _ _)
      | (with_reducible exact ih4 _ _ _ _ _ _)
      | (with_reducible exact carillonlaw02_texts.mono _ _ _)
      | (with_reducible exact crc_All.mono _ _)
      | (with_reducible exact LeO.refl _)
      | (with_reducible exact LeO.none _)
      | (with_reducible refine LeO.ite ?_ ?_)
      | (with_reducible refine LeO.bind ?_ (fun _ => ?_))
      | exact ih0 _ _ _ _ _ _
      | exact ih1 _ _ _ _ _ _ _
      | exact ih2 _ _ _ _ _
      | exact ih3 _ _ _ _ _ _
      | exact ih4 _ _ _ _ _ _
      | exact carillonlaw02_texts.mono _ _ _
      | exact crc_All.mono _ _
      | exact LeO.none _
      | refine LeO.ite ?_ ?_
      | refine LeO.bind ?_ (fun _ => ?_)
theorem carillonlaw02_CrcTorn.mono : ∀ a0 a1 k, LeO (carillonlaw02_CrcTorn.f k a0 a1) (carillonlaw02_CrcTorn.f (k + 1) a0 a1) := by
  intro a0 a1 k
  obtain ⟨ih0, ih1, ih2, ih3, ih4⟩ := carillonlaw02_CrcTorn.mono_l k
  unfold carillonlaw02_CrcTorn.f
  repeat' first
      | (with_reducible exact ih0 _ _ _ _ _ _)
      | (with_reducible exact ih1 _ _ _ _ _ _ _)
      | (with_reducible exact ih2 _ _ _ _ _)
      | (with_reducible exact ih3 _ _ _ _ _ _)
      | (with_reducible exact ih4 _ _ _ _ _ _)
      | (with_reducible exact carillonlaw02_texts.mono _ _ _)
      | (with_reducible exact crc_All.mono _ _)
      | (with_reducible exact LeO.refl _)
      | (with_reducible exact LeO.none _)
      | (with_reducible refine LeO.ite ?_ ?_)
      | (with_reducible refine LeO.bind ?_ (fun _ => ?_))
      | exact ih0 _ _ _ _ _ _
      | exact ih1 _ _ _ _ _ _ _
      | exact ih2 _ _ _ _ _
      | exact ih3 _ _ _ _ _ _
      | exact ih4 _ _ _ _ _ _
      | exact carillonlaw02_texts.mono _ _ _
      | exact crc_All.mono _ _
      | exact LeO.none _
      | refine LeO.ite ?_ ?_
      | refine LeO.bind ?_ (fun _ => ?_)
set_option maxHeartbeats 8000000 in
set_option maxRecDepth 100000 in
theorem carillonlaw02_CrcTorn.calls (k : Nat) (A0 : Option Addr) (c0 : Nat) (l0 : List ByteArray) (a1 : Int) (r : Bool) (w : World) (hr0 : Kd.C Kd.string w A0 l0.length l0) (hc0 : l0.length ≤ c0) (hr_ : Aside0 (r = true)) (HT_ : TabOk w) (h : carillonlaw02_CrcTorn.f k l0 a1 = some r) :
    Calls Tryd.prog 8 #[.slice A0 l0.length c0, .int .i64 a1] w fun e w' => e = .returned (.bool r) ∧ Below w.heap.size w w' := by
  have HT := Aside0.mk HT_
  clear HT_
  have HR0 := Aside0.mk hr0
  have HC0 := Aside0.mk hc0
  clear hr0 hc0
  have HB := Aside0.mk (Below.refl w.heap.size w)
  have H : ((carillonlaw02_examples.f).bind fun t190 => (carillonlaw02_CrcTorn.l0 k l0 a1 t190 (⟨#[]⟩ : ByteArray) ([] : List Int) 0)) = some r := h
  clear h
  replace H := Option.bind_eq_some_iff.mp H
  obtain ⟨t190, A30, H⟩ := H
  replace H : (carillonlaw02_CrcTorn.l0 k l0 a1 t190 (⟨#[]⟩ : ByteArray) ([] : List Int) 0) = some r := H
  have A3 := Aside0.mk A30
  clear A30
  have H' := Aside0.mk H
  clear H
  go_enter Tryd.func8, Tryd.ntmps8
  go_wp2_with (first | ((with_reducible refine gate_callee (f := 12) rfl ?_); refine goesL_ (some 17) rfl rfl Tryd.func12 (by kernel_rfl) rfl #[] rfl am ?_; (with_reducible refine (carillonlaw02_examples.calls  t190 _ tbk A3.out).mono ?_); rintro e w4 ⟨rfl, hb⟩; refine ⟨_, rfl, ?_⟩; have n0_ := Aside0.mk (below_step bw hb); clear HB; have HB := n0_; clear n0_; (try clear hb); (try clear hb2); (try clear hk); (try clear hi)))
  go_loopg [6, 7, 8] k (fun kq v6 v7 v8 w' => ∃ (x6_1 : ByteArray) (x7_1 : List Int) (x8_1 : Int), v6 = .string x6_1 ∧ v8 = .int .i64 x8_1 ∧ Aside0 (carillonlaw02_CrcTorn.l0 kq l0 a1 t190 x6_1 x7_1 x8_1 = some r) ∧ Aside0 (kq ≤ k) ∧ Aside0 (Kd.R (Kd.int .i64) 3 w' w.heap.size (fun _ => True) v7 x7_1) ∧ Aside0 (Below w.heap.size w w'))
  case atStart => exact ⟨((⟨#[]⟩ : ByteArray)), (([] : List Int)), (0), (by first | rfl | (simp; done) | (simp [*]; done)), (by first | rfl | (simp; done) | (simp [*]; done)), H', ⟨Nat.le_refl _⟩, ⟨by first | exact Kd.R_nil _ _ _ _ _ | exact Kd.N_nil _ _ _ _ _ | exact Kd.V_nil _ _ _ _ _ | exact Kd.Q_nil _ _ _ _ _ | exact Kd.S_nil _ _ _ _ _⟩, ⟨bw⟩⟩
  case round =>
    clear H'
    try clear c1
    try clear p2
    obtain ⟨x6_1, x7_1, x8_1, rfl, rfl, HA, HK1, HO_7, HB⟩ := hrel
    cases gk with
    | zero => exact absurd HA.out (by simp [carillonlaw02_CrcTorn.l0])
    | succ k1 =>
      have H := HA.out
      clear HA
      simp only [carillonlaw02_CrcTorn.l0] at H
      have HC5 := Aside0.mk H
      clear H
      go_upto_region 5 with (fail)
      go_cut [25] (fun v25 wc => ∃ (kq : Nat) (x25_4 : Bool), v25 = .bool x25_4 ∧ Aside0 (carillonlaw02_CrcTorn.j1 kq l0 a1 t190 x6_1 x7_1 x8_1 x25_4 = some r) ∧ Aside0 (kq ≤ k1) ∧ Aside0 (Kd.R (Kd.int .i64) 3 wc w.heap.size (fun _ => True) u7 x7_1) ∧ Aside0 (Below w.heap.size w wc))
      case first =>
        have H := HC5.out
        clear HC5
        by_cases c6 : x8_1 < (l0.length : Int)
        · rw [if_pos c6] at H
          have c6b0 : decide (x8_1 < (l0.length : Int)) = true := decide_eq_true c6
          clear c6
          (first | rw [c6b0] | (simp only [i64_w, i32_w]; rw [c6b0]) | skip)
          have H' := Aside0.mk H
          clear H
          go_wp2
          go_meet
          case rel => exact ⟨_, (decide (x8_1 < 50)), (by first | rfl | (simp; done) | (simp [*]; done)), H', ⟨by have := HK1.out; first | omega | exact Nat.le_refl _⟩, ⟨by (with_reducible repeat (first | apply Kd.R_alloc | apply Kd.R_drewN | apply Kd.R_drew)); exact HO_7.out⟩, ⟨bw⟩⟩
        · rw [if_neg c6] at H
          have c6b0 : decide (x8_1 < (l0.length : Int)) = false := decide_eq_false c6
          clear c6
          (first | rw [c6b0] | (simp only [i64_w, i32_w]; rw [c6b0]) | skip)
          have H' := Aside0.mk H
          clear H
          go_wp2
          go_meet
          case rel => exact ⟨_, (false), (by first | rfl | (simp; done) | (simp [*]; done)), H', ⟨by have := HK1.out; first | omega | exact Nat.le_refl _⟩, ⟨by (with_reducible repeat (first | apply Kd.R_alloc | apply Kd.R_drewN | apply Kd.R_drew)); exact HO_7.out⟩, ⟨bw⟩⟩
      case rest =>
        clear HC5
        try clear c1
        try clear p2
        try clear c6
        try clear c6b0
        try clear p2
        obtain ⟨kq, x25_4, rfl, HA, HJ4, HO_7, HB⟩ := hcut
        cases kq with
        | zero => exact absurd HA.out (by simp [carillonlaw02_CrcTorn.j1])
        | succ kj4 =>
          have H := HA.out
          clear HA
          simp only [carillonlaw02_CrcTorn.j1] at H
          by_cases c7 : x25_4 = true
          · subst c7
            have H1 : (if 0 ≤ x8_1 then (if x8_1 < (l0.length : Int) then ((crc_Frame.f (rdOf ByteArray.empty l0 x8_1)).bind fun bt192 => (if bt192.2 = 0 then (if x6_1.size + bt192.1.size ≤ 9223372036854775807 then (if x7_1.length < 17592186044416 then (carillonlaw02_CrcTorn.l0 kj4 l0 a1 t190 (x6_1 ++ bt192.1) (x7_1 ++ [(x6_1.size : Int) + (bt192.1.size : Int)]) (wrap64 (x8_1 + 1))) else (none)) else (none)) else (some t190))) else (none)) else (none)) = some r := by rw [if_pos rfl] at H; exact H
            clear H
            have H := H1
            clear H1
            by_cases c8 : 0 ≤ x8_1
            · rw [if_pos c8] at H
              have c8b0 : decide (0 ≤ x8_1) = true := decide_eq_true c8
              clear c8
              by_cases c9 : x8_1 < (l0.length : Int)
              · rw [if_pos c9] at H
                have c9b0 : decide (x8_1 < (l0.length : Int)) = true := decide_eq_true c9
                clear c9
                replace H := Option.bind_eq_some_iff.mp H
                obtain ⟨⟨t192, t193⟩, A100, H⟩ := H
                replace H : (if t193 = 0 then (if x6_1.size + t192.size ≤ 9223372036854775807 then (if x7_1.length < 17592186044416 then (carillonlaw02_CrcTorn.l0 kj4 l0 a1 t190 (x6_1 ++ t192) (x7_1 ++ [(x6_1.size : Int) + (t192.size : Int)]) (wrap64 (x8_1 + 1))) else (none)) else (none)) else (some t190)) = some r := H
                have A10 := Aside0.mk A100
                clear A100
                by_cases c11 : t193 = 0
                · rw [if_pos c11] at H
                  have c11b0 : (t193 == 0) = true := beq_iff_eq.mpr c11
                  have c11b1 : (t193 != 0) = false := bne_eq_false_iff_eq.mpr c11
                  clear c11
                  by_cases c12 : x6_1.size + t192.size ≤ 9223372036854775807
                  · rw [if_pos c12] at H
                    have c12b0 := eq_true c12
                    have c12b1 : decide (x6_1.size + t192.size ≤ 9223372036854775807) = true := decide_eq_true c12
                    try have c12b2 : (9223372036854775807 < x6_1.size + t192.size) = False := eq_false (Nat.not_lt.2 c12)
                    by_cases c13 : x7_1.length < 17592186044416
                    · rw [if_pos c13] at H
                      have LMc13 := Aside0.mk c13
                      clear c13
                      obtain ⟨y194, hy194⟩ : ∃ y_ : List Int, y_ = (x7_1 ++ [(x6_1.size : Int) + (t192.size : Int)]) := ⟨_, rfl⟩
                      replace H : (carillonlaw02_CrcTorn.l0 kj4 l0 a1 t190 (x6_1 ++ t192) y194 (wrap64 (x8_1 + 1))) = some r := by first | (rw [hy194]; with_reducible exact H) | (have H2_ := (Option.bind_some _ _).symm.trans H; rw [hy194]; with_reducible exact H2_) | (have H2_ := (Option.bind_some _ _).symm.trans H; with_reducible exact H2_) | with_reducible exact H | (rw [hy194]; exact H) | exact H
                      have Ny194 := Aside0.mk hy194
                      clear hy194
                      have H' := Aside0.mk H
                      clear H
                      have p191 : 0 ≤ (x8_1 : Int) := of_decide_eq_true (by first | (with_reducible assumption) | assumption)
                      have q191 : x8_1 < (l0.length : Int) := of_decide_eq_true (by first | (with_reducible assumption) | assumption)
                      obtain ⟨ad191, e191, hx191_0⟩ := Kd.at_string HR0.out x8_1 p191 q191
                      cases e191
                      replace hx191_0 := (HB.out.cell (World.block_lt_of_cell? w _ hx191_0)).trans hx191_0
                      replace p191 := eq_true p191
                      replace q191 := eq_true q191
                      go_wp2_with (first | ((with_reducible refine gate_callee (f := 17) rfl ?_); refine goesL_ (some 33) rfl rfl Tryd.func17 (by kernel_rfl) rfl #[.string (rdOf ByteArray.empty l0 x8_1)] rfl am ?_; (with_reducible refine (crc_Frame.calls (rdOf ByteArray.empty l0 x8_1) t192 t193 _ tbk A10.out).mono ?_); rintro e w14 ⟨rfl, hb⟩; refine ⟨_, rfl, ?_⟩; have n0_ := Aside0.mk (Kd.R_below (by (with_reducible repeat (first | apply Kd.R_alloc | apply Kd.R_drewN | apply Kd.R_drew)); exact HO_7.out) hb); have n1_ := Aside0.mk (below_step bw hb); clear HO_7; clear HB; have HO_7 := n0_; have HB := n1_; clear n0_ n1_; (try clear hb); (try clear hb2); (try clear hk); (try clear hi)) | ((with_reducible refine gate_builtin (b := .append) (xs := #[.tmp 42, .tmp 45]) rfl ?_); at_builtin; refine Kd.R_append (Kd.int .i64) (w0 := w) w.heap.size rfl (.tmp 42) (.tmp 45) 45 3 (.int .i64 0) 8 rfl Tryd.underlying45 info3 rfl (by decide) (by omega) u7 x7_1 ((x6_1.size : Int) + (t192.size : Int)) [.int .i64 ((x6_1.size : Int) + (t192.size : Int))] (fun _ => True) (fun _ => False) rfl rfl ?aP (fun _ hk => hk.elim) ?aF ?aO ?aB ?aS ?aL ?_; (case aP => exact rfl); (case aB => exact bw); (case aF => exact (fun _ _ => trivial)); (case aO => exact (by (with_reducible repeat (first | apply Kd.R_alloc | apply Kd.R_drewN | apply Kd.R_drew)); exact HO_7.out)); (case aS => exact (below_size bw)); (case aL => have := LMc13.out; omega); intro v195 w15 ho hb hg hat; rw [← Ny194.out] at ho; have n0_ := Aside0.mk (hb); have n1_ := Aside0.mk (ho); clear HB; clear HO_7; have HB := n0_; have HO196 := n1_; clear n0_ n1_; clear ho hb hg hat))
                      go_roundg kj4
                      case measure => have := HK1.out; have := HJ4.out; omega
                      case rel => exact ⟨(x6_1 ++ t192), (y194), (wrap64 (x8_1 + 1)), (by first | rfl | (simp; done) | (simp [*]; done)), (by first | rfl | (simp; done) | (simp [*]; done)), H', ⟨by have := HK1.out; have := HJ4.out; omega⟩, ⟨by (with_reducible repeat (first | apply Kd.R_alloc | apply Kd.R_drewN | apply Kd.R_drew)); exact HO196.out⟩, ⟨bw⟩⟩
                    · rw [if_neg c13] at H
                      exact absurd H (by simp)
                  · rw [if_neg c12] at H
                    exact absurd H (by simp)
                · rw [if_neg c11] at H
                  have c11b0 : (t193 == 0) = false := beq_eq_false_iff_ne.mpr c11
                  have c11b1 : (t193 != 0) = true := bne_iff_ne.mpr c11
                  obtain rfl := Option.some.inj H
                  have p191 : 0 ≤ (x8_1 : Int) := of_decide_eq_true (by first | (with_reducible assumption) | assumption)
                  have q191 : x8_1 < (l0.length : Int) := of_decide_eq_true (by first | (with_reducible assumption) | assumption)
                  obtain ⟨ad191, e191, hx191_0⟩ := Kd.at_string HR0.out x8_1 p191 q191
                  cases e191
                  replace hx191_0 := (HB.out.cell (World.block_lt_of_cell? w _ hx191_0)).trans hx191_0
                  replace p191 := eq_true p191
                  replace q191 := eq_true q191
                  go_wp2_with (first | ((with_reducible refine gate_callee (f := 17) rfl ?_); refine goesL_ (some 33) rfl rfl Tryd.func17 (by kernel_rfl) rfl #[.string (rdOf ByteArray.empty l0 x8_1)] rfl am ?_; (with_reducible refine (crc_Frame.calls (rdOf ByteArray.empty l0 x8_1) t192 t193 _ tbk A10.out).mono ?_); rintro e w16 ⟨rfl, hb⟩; refine ⟨_, rfl, ?_⟩; have n0_ := Aside0.mk (Kd.R_below (by (with_reducible repeat (first | apply Kd.R_alloc | apply Kd.R_drewN | apply Kd.R_drew)); exact HO_7.out) hb); have n1_ := Aside0.mk (below_step bw hb); clear HO_7; clear HB; have HO_7 := n0_; have HB := n1_; clear n0_ n1_; (try clear hb); (try clear hb2); (try clear hk); (try clear hi)))
                  go_ret
                  exact ⟨er, bw⟩
              · rw [if_neg c9] at H
                exact absurd H (by simp)
            · rw [if_neg c8] at H
              exact absurd H (by simp)
          · replace c7 := Bool.eq_false_iff.mpr c7
            subst c7
            have H1 : (if a1 < 0 then (carillonlaw02_CrcTorn.j2 kj4 l0 (wrap64 (-(wrap64 (a1 + 1)))) t190 x6_1 x7_1) else (carillonlaw02_CrcTorn.j2 kj4 l0 a1 t190 x6_1 x7_1)) = some r := by rw [if_neg (show ¬ (false = true) by decide)] at H; exact H
            clear H
            have H := H1
            clear H1
            have HC17 := Aside0.mk H
            clear H
            go_upto_if 48 with (fail)
            go_cut [1] (fun v1 wc => ∃ (kq : Nat) (x1_16 : Int), v1 = .int .i64 x1_16 ∧ Aside0 (carillonlaw02_CrcTorn.j2 kq l0 x1_16 t190 x6_1 x7_1 = some r) ∧ Aside0 (kq ≤ kj4) ∧ Aside0 (Kd.R (Kd.int .i64) 3 wc w.heap.size (fun _ => True) u7 x7_1) ∧ Aside0 (Below w.heap.size w wc))
            case first =>
              have H := HC17.out
              clear HC17
              by_cases c18 : a1 < 0
              · rw [if_pos c18] at H
                have c18b0 : decide (a1 < 0) = true := decide_eq_true c18
                clear c18
                (first | rw [c18b0] | (simp only [i64_w, i32_w]; rw [c18b0]) | skip)
                have H' := Aside0.mk H
                clear H
                go_wp2
                go_meet
                case rel => exact ⟨_, (wrap64 (-(wrap64 (a1 + 1)))), (by first | rfl | (simp; done) | (simp [*]; done)), H', ⟨by have := HK1.out; have := HJ4.out; first | omega | exact Nat.le_refl _⟩, ⟨by (with_reducible repeat (first | apply Kd.R_alloc | apply Kd.R_drewN | apply Kd.R_drew)); exact HO_7.out⟩, ⟨bw⟩⟩
              · rw [if_neg c18] at H
                have c18b0 : decide (a1 < 0) = false := decide_eq_false c18
                clear c18
                (first | rw [c18b0] | (simp only [i64_w, i32_w]; rw [c18b0]) | skip)
                have H' := Aside0.mk H
                clear H
                go_wp2
                go_meet
                case rel => exact ⟨_, (a1), (by first | rfl | (simp; done) | (simp [*]; done)), H', ⟨by have := HK1.out; have := HJ4.out; first | omega | exact Nat.le_refl _⟩, ⟨by (with_reducible repeat (first | apply Kd.R_alloc | apply Kd.R_drewN | apply Kd.R_drew)); exact HO_7.out⟩, ⟨bw⟩⟩
            case rest =>
              clear HC17
              try clear c1
              try clear p1
              try clear q1
              try clear hx1
              try clear p2
              try clear c6
              try clear c6b0
              try clear p6
              try clear c7
              try clear c8
              try clear c8b0
              try clear c9
              try clear c9b0
              try clear c11
              try clear c11b0
              try clear c11b1
              try clear c12
              try clear c12b0
              try clear c12b1
              try clear c12b2
              try clear c13
              try clear c17
              try clear c18
              try clear c18b0
              try clear hx191_0
              try clear p191
              try clear p2
              try clear q191
              obtain ⟨kq, x1_16, rfl, HA, HJ16, HO_7, HB⟩ := hcut
              cases kq with
              | zero => exact absurd HA.out (by simp [carillonlaw02_CrcTorn.j2])
              | succ kj16 =>
                have H := HA.out
                clear HA
                simp only [carillonlaw02_CrcTorn.j2] at H
                by_cases c19 : (wrap64 ((x6_1.size : Int) + 1)) = 0
                · rw [if_pos c19] at H
                  exact absurd H (by simp)
                · rw [if_neg c19] at H
                  have c19b0 : ((wrap64 ((x6_1.size : Int) + 1)) == 0) = false := beq_eq_false_iff_ne.mpr c19
                  have c19b1 : ((wrap64 ((x6_1.size : Int) + 1)) != 0) = true := bne_iff_ne.mpr c19
                  have HC20 := Aside0.mk H
                  clear H
                  go_upto_block 2 with (fail)
                  go_cut [11] (fun v11 wc => ∃ (kq : Nat) (x11_19 : Int), v11 = .int .i64 x11_19 ∧ Aside0 (carillonlaw02_CrcTorn.j4 kq l0 (Int.tmod x1_16 (wrap64 ((x6_1.size : Int) + 1))) t190 x6_1 x7_1 x11_19 = some r) ∧ Aside0 (kq ≤ kj16) ∧ Aside0 (Kd.R (Kd.int .i64) 3 wc w.heap.size (fun _ => True) u7 x7_1) ∧ Aside0 (Below w.heap.size w wc))
                  case first =>
                    have H := HC20.out
                    clear HC20
                    have H' := Aside0.mk H
                    clear H
                    go_wp2
                    go_loopg [11] kj16 (fun kq v11 w' => ∃ (x11_4 : Int), v11 = .int .i64 x11_4 ∧ Aside0 (carillonlaw02_CrcTorn.l1 kq l0 (Int.tmod x1_16 (wrap64 ((x6_1.size : Int) + 1))) t190 x6_1 x7_1 x11_4 = some r) ∧ Aside0 (kq ≤ kj16) ∧ Aside0 (Kd.R (Kd.int .i64) 3 w' w.heap.size (fun _ => True) u7 x7_1) ∧ Aside0 (Below w.heap.size w w'))
                    case atStart => exact ⟨(0), (by first | rfl | (simp; done) | (simp [*]; done)), H', ⟨Nat.le_refl _⟩, ⟨by (with_reducible repeat (first | apply Kd.R_alloc | apply Kd.R_drewN | apply Kd.R_drew)); exact HO_7.out⟩, ⟨bw⟩⟩
                    case round =>
                      clear H'
                      try clear c1
                      try clear p1
                      try clear q1
                      try clear hx1
                      try clear p2
                      try clear c6
                      try clear c6b0
                      try clear p6
                      try clear c7
                      try clear c8
                      try clear c8b0
                      try clear c9
                      try clear c9b0
                      try clear c11
                      try clear c11b0
                      try clear c11b1
                      try clear c12
                      try clear c12b0
                      try clear c12b1
                      try clear c12b2
                      try clear c13
                      try clear c17
                      try clear c18
                      try clear c18b0
                      try clear c19
                      try clear c19b0
                      try clear c19b1
                      try clear p19
                      try clear q19
                      try clear hx19
                      try clear hx191_0
                      try clear p1
                      try clear p191
                      try clear p2
                      try clear p6
                      try clear q1
                      try clear q191
                      obtain ⟨x11_4, rfl, HA, HK4, HO_7, HB⟩ := hrel
                      cases gk with
                      | zero => exact absurd HA.out (by simp [carillonlaw02_CrcTorn.l1])
                      | succ k4 =>
                        have H := HA.out
                        clear HA
                        simp only [carillonlaw02_CrcTorn.l1] at H
                        by_cases c21 : x11_4 < (x7_1.length : Int)
                        · rw [if_pos c21] at H
                          have c21b0 : decide (x11_4 < (x7_1.length : Int)) = true := decide_eq_true c21
                          clear c21
                          (first | rw [c21b0] | (simp only [i64_w, i32_w]; rw [c21b0]) | skip)
                          by_cases c22 : 0 ≤ x11_4
                          · rw [if_pos c22] at H
                            have c22b0 : decide (0 ≤ x11_4) = true := decide_eq_true c22
                            clear c22
                            by_cases c23 : (rd x7_1 x11_4) ≤ (Int.tmod x1_16 (wrap64 ((x6_1.size : Int) + 1)))
                            · rw [if_pos c23] at H
                              have c23b0 : decide ((rd x7_1 x11_4) ≤ (Int.tmod x1_16 (wrap64 ((x6_1.size : Int) + 1)))) = true := decide_eq_true c23
                              clear c23
                              have H' := Aside0.mk H
                              clear H
                              obtain ⟨Ao24, co24, eo24⟩ := Kd.R_slice HO_7.out
                              subst eo24
                              have p197 : 0 ≤ (x11_4 : Int) := of_decide_eq_true (by first | (with_reducible assumption) | assumption)
                              have q197 : x11_4 < (x7_1.length : Int) := of_decide_eq_true (by first | (with_reducible assumption) | assumption)
                              obtain ⟨ad197, e197, hx197_0⟩ := Kd.at_int (Kd.R_reads' HO_7.out).2.2 x11_4 p197 q197
                              cases e197
                              replace p197 := eq_true p197
                              replace q197 := eq_true q197
                              go_wp2
                              go_roundg k4
                              case measure => have := HK1.out; have := HJ4.out; have := HJ16.out; have := HK4.out; omega
                              case rel => exact ⟨(wrap64 (x11_4 + 1)), (by first | rfl | (simp; done) | (simp [*]; done)), H', ⟨by have := HK1.out; have := HJ4.out; have := HJ16.out; have := HK4.out; omega⟩, ⟨by (with_reducible repeat (first | apply Kd.R_alloc | apply Kd.R_drewN | apply Kd.R_drew)); exact HO_7.out⟩, ⟨bw⟩⟩
                            · rw [if_neg c23] at H
                              have c23b0 : decide ((rd x7_1 x11_4) ≤ (Int.tmod x1_16 (wrap64 ((x6_1.size : Int) + 1)))) = false := decide_eq_false c23
                              clear c23
                              have H' := Aside0.mk H
                              clear H
                              obtain ⟨Ao25, co25, eo25⟩ := Kd.R_slice HO_7.out
                              subst eo25
                              have p197 : 0 ≤ (x11_4 : Int) := of_decide_eq_true (by first | (with_reducible assumption) | assumption)
                              have q197 : x11_4 < (x7_1.length : Int) := of_decide_eq_true (by first | (with_reducible assumption) | assumption)
                              obtain ⟨ad197, e197, hx197_0⟩ := Kd.at_int (Kd.R_reads' HO_7.out).2.2 x11_4 p197 q197
                              cases e197
                              replace p197 := eq_true p197
                              replace q197 := eq_true q197
                              go_wp2
                              go_meet
                              case rel => exact ⟨_, (x11_4), (by first | rfl | (simp; done) | (simp [*]; done)), H', ⟨by have := HK1.out; have := HJ4.out; have := HJ16.out; have := HK4.out; first | omega | exact Nat.le_refl _⟩, ⟨by (with_reducible repeat (first | apply Kd.R_alloc | apply Kd.R_drewN | apply Kd.R_drew)); exact HO_7.out⟩, ⟨bw⟩⟩
                          · rw [if_neg c22] at H
                            exact absurd H (by simp)
                        · rw [if_neg c21] at H
                          have c21b0 : decide (x11_4 < (x7_1.length : Int)) = false := decide_eq_false c21
                          clear c21
                          (first | rw [c21b0] | (simp only [i64_w, i32_w]; rw [c21b0]) | skip)
                          have H' := Aside0.mk H
                          clear H
                          obtain ⟨Ao26, co26, eo26⟩ := Kd.R_slice HO_7.out
                          subst eo26
                          go_wp2
                          go_meet
                          case rel => exact ⟨_, (x11_4), (by first | rfl | (simp; done) | (simp [*]; done)), H', ⟨by have := HK1.out; have := HJ4.out; have := HJ16.out; have := HK4.out; first | omega | exact Nat.le_refl _⟩, ⟨by (with_reducible repeat (first | apply Kd.R_alloc | apply Kd.R_drewN | apply Kd.R_drew)); exact HO_7.out⟩, ⟨bw⟩⟩
                  case rest =>
                    clear HC20
                    try clear c1
                    try clear p1
                    try clear q1
                    try clear hx1
                    try clear c2
                    try clear p2
                    try clear c6
                    try clear c6b0
                    try clear p6
                    try clear c7
                    try clear c8
                    try clear c8b0
                    try clear c9
                    try clear c9b0
                    try clear c11
                    try clear c11b0
                    try clear c11b1
                    try clear c12
                    try clear c12b0
                    try clear c12b1
                    try clear c12b2
                    try clear c13
                    try clear c17
                    try clear c18
                    try clear c18b0
                    try clear c19
                    try clear c19b0
                    try clear c19b1
                    try clear p19
                    try clear q19
                    try clear hx19
                    try clear c21
                    try clear c21b0
                    try clear c22
                    try clear c22b0
                    try clear c23
                    try clear c23b0
                    try clear hx191_0
                    try clear hx197_0
                    try clear p1
                    try clear p19
                    try clear p191
                    try clear p197
                    try clear p2
                    try clear p6
                    try clear q1
                    try clear q19
                    try clear q191
                    try clear q197
                    obtain ⟨kq, x11_19, rfl, HA, HJ19, HO_7, HB⟩ := hcut
                    cases kq with
                    | zero => exact absurd HA.out (by simp [carillonlaw02_CrcTorn.j4])
                    | succ kj19 =>
                      have H := HA.out
                      clear HA
                      simp only [carillonlaw02_CrcTorn.j4] at H
                      by_cases c27 : x11_19 > 0
                      · rw [if_pos c27] at H
                        have c27b0 : decide (0 < x11_19) = true := decide_eq_true c27
                        clear c27
                        obtain ⟨ji28, hji28⟩ : ∃ j_ : Int, (wrap64 (x11_19 - 1)) = j_ := ⟨_, rfl⟩
                        replace H : (if 0 ≤ (ji28) then (if (ji28) < (x7_1.length : Int) then (if 0 ≤ (Int.tmod x1_16 (wrap64 ((x6_1.size : Int) + 1))) then (if (Int.tmod x1_16 (wrap64 ((x6_1.size : Int) + 1))) ≤ (x6_1.size : Int) then ((crc_All.f kj19 (x6_1.extract 0 ((Int.tmod x1_16 (wrap64 ((x6_1.size : Int) + 1))) : Int).toNat)).bind fun bt199 => (if 0 ≤ x11_19 then (if x11_19 ≤ (l0.length : Int) then ((carillonlaw02_texts.f kj19 bt199.1 (l0.take (x11_19 : Int).toNat)).bind fun t205 => (if t190 = true then (if t205 = true then (if bt199.2.1 = (rd x7_1 (ji28)) then (if ((bt199.2.2 == 0) == ((rd x7_1 (ji28)) == (Int.tmod x1_16 (wrap64 ((x6_1.size : Int) + 1))))) = true then (if bt199.2.2 = 0 then (some true) else (some (bt199.2.2 == 2))) else (some false)) else (some false)) else (some false)) else (some false))) else (none)) else (none))) else (none)) else (none)) else (none)) else (none)) = some r := by first | (rw [hji28] at H; exact H) | (simp only [hji28] at H ⊢; exact H)
                        have hji28w : (IntKind.i64.wrap (x11_19 - 1)) = ji28 := (i64_w _).trans hji28
                        by_cases c29 : 0 ≤ (ji28)
                        · rw [if_pos c29] at H
                          have c29b0 : decide (0 ≤ (ji28)) = true := decide_eq_true c29
                          clear c29
                          by_cases c30 : (ji28) < (x7_1.length : Int)
                          · rw [if_pos c30] at H
                            have c30b0 : decide ((ji28) < (x7_1.length : Int)) = true := decide_eq_true c30
                            clear c30
                            obtain ⟨ji31, hji31⟩ : ∃ j_ : Int, (Int.tmod x1_16 (wrap64 ((x6_1.size : Int) + 1))) = j_ := ⟨_, rfl⟩
                            replace H : (if 0 ≤ (ji31) then (if (ji31) ≤ (x6_1.size : Int) then ((crc_All.f kj19 (x6_1.extract 0 ((ji31) : Int).toNat)).bind fun bt199 => (if 0 ≤ x11_19 then (if x11_19 ≤ (l0.length : Int) then ((carillonlaw02_texts.f kj19 bt199.1 (l0.take (x11_19 : Int).toNat)).bind fun t205 => (if t190 = true then (if t205 = true then (if bt199.2.1 = (rd x7_1 (ji28)) then (if ((bt199.2.2 == 0) == ((rd x7_1 (ji28)) == (ji31))) = true then (if bt199.2.2 = 0 then (some true) else (some (bt199.2.2 == 2))) else (some false)) else (some false)) else (some false)) else (some false))) else (none)) else (none))) else (none)) else (none)) = some r := by first | (rw [hji31] at H; exact H) | (simp only [hji31] at H ⊢; exact H)
                            by_cases c32 : 0 ≤ (ji31)
                            · rw [if_pos c32] at H
                              have c32b0 := eq_true c32
                              have c32b1 : decide (0 ≤ (ji31)) = true := decide_eq_true c32
                              clear c32
                              by_cases c33 : (ji31) ≤ (x6_1.size : Int)
                              · rw [if_pos c33] at H
                                have c33b0 := eq_true c33
                                have c33b1 : decide ((ji31) ≤ (x6_1.size : Int)) = true := decide_eq_true c33
                                clear c33
                                replace H := Option.bind_eq_some_iff.mp H
                                obtain ⟨⟨t199, t200, t201⟩, A340, H⟩ := H
                                replace H : (if 0 ≤ x11_19 then (if x11_19 ≤ (l0.length : Int) then ((carillonlaw02_texts.f kj19 t199 (l0.take (x11_19 : Int).toNat)).bind fun t205 => (if t190 = true then (if t205 = true then (if t200 = (rd x7_1 (ji28)) then (if ((t201 == 0) == ((rd x7_1 (ji28)) == (ji31))) = true then (if t201 = 0 then (some true) else (some (t201 == 2))) else (some false)) else (some false)) else (some false)) else (some false))) else (none)) else (none)) = some r := H
                                have A34 := Aside0.mk A340
                                clear A340
                                by_cases c35 : 0 ≤ x11_19
                                · rw [if_pos c35] at H
                                  have c35b0 := eq_true c35
                                  have c35b1 : decide (0 ≤ x11_19) = true := decide_eq_true c35
                                  clear c35
                                  by_cases c36 : x11_19 ≤ (l0.length : Int)
                                  · rw [if_pos c36] at H
                                    have c36b0 := eq_true c36
                                    have c36b1 : decide (x11_19 ≤ (l0.length : Int)) = true := decide_eq_true c36
                                    clear c36
                                    replace H := Option.bind_eq_some_iff.mp H
                                    obtain ⟨t205, A370, H⟩ := H
                                    replace H : (if t190 = true then (if t205 = true then (if t200 = (rd x7_1 (ji28)) then (if ((t201 == 0) == ((rd x7_1 (ji28)) == (ji31))) = true then (if t201 = 0 then (some true) else (some (t201 == 2))) else (some false)) else (some false)) else (some false)) else (some false)) = some r := H
                                    have A37 := Aside0.mk A370
                                    clear A370
                                    by_cases c38 : t190 = true
                                    · subst c38
                                      have H1 : (if t205 = true then (if t200 = (rd x7_1 (ji28)) then (if ((t201 == 0) == ((rd x7_1 (ji28)) == (ji31))) = true then (if t201 = 0 then (some true) else (some (t201 == 2))) else (some false)) else (some false)) else (some false)) = some r := by rw [if_pos rfl] at H; exact H
                                      clear H
                                      have H := H1
                                      clear H1
                                      by_cases c39 : t205 = true
                                      · subst c39
                                        have H1 : (if t200 = (rd x7_1 (ji28)) then (if ((t201 == 0) == ((rd x7_1 (ji28)) == (ji31))) = true then (if t201 = 0 then (some true) else (some (t201 == 2))) else (some false)) else (some false)) = some r := by rw [if_pos rfl] at H; exact H
                                        clear H
                                        have H := H1
                                        clear H1
                                        by_cases c40 : t200 = (rd x7_1 (ji28))
                                        · rw [if_pos c40] at H
                                          have c40b0 : (t200 == (rd x7_1 (ji28))) = true := beq_iff_eq.mpr c40
                                          have c40b1 : (t200 != (rd x7_1 (ji28))) = false := bne_eq_false_iff_eq.mpr c40
                                          clear c40
                                          by_cases c41 : ((t201 == 0) == ((rd x7_1 (ji28)) == (ji31))) = true
                                          · rw [if_pos c41] at H
                                            have c41b0 : ((t201 == 0) == ((rd x7_1 (ji28)) == (ji31))) = true := c41
                                            (try (have c41b1 : decide ((t201 == 0) = ((rd x7_1 (ji28)) == (ji31))) = true := by simpa using c41))
                                            (try (have c41b2 : ((t201 == 0) == ((rd x7_1 (ji28)) == (ji31))) = true := by simpa using c41))
                                            clear c41
                                            by_cases c42 : t201 = 0
                                            · rw [if_pos c42] at H
                                              have c42b0 : (t201 == 0) = true := beq_iff_eq.mpr c42
                                              (try simp only [c42b0, Bool.not_true, Bool.not_false, Bool.false_or, Bool.true_or, Bool.true_and, Bool.false_and, Bool.true_beq, Bool.false_beq, beq_true, beq_false] at c41b0)
                                              have c42b1 : (t201 != 0) = false := bne_eq_false_iff_eq.mpr c42
                                              clear c42
                                              obtain rfl := Option.some.inj H
                                              obtain ⟨Ao43, co43, eo43⟩ := Kd.R_slice HO_7.out
                                              subst eo43
                                              have p198 : 0 ≤ ((ji28) : Int) := of_decide_eq_true (by first | (with_reducible assumption) | assumption)
                                              have q198 : (ji28) < (x7_1.length : Int) := of_decide_eq_true (by first | (with_reducible assumption) | assumption)
                                              obtain ⟨ad198, e198, hx198_0⟩ := Kd.at_int (Kd.R_reads' HO_7.out).2.2 (ji28) p198 q198
                                              cases e198
                                              replace p198 := eq_true p198
                                              replace q198 := eq_true q198
                                              go_wp2_with (first | ((with_reducible refine gate_callee (f := 22) rfl ?_); refine goesL_ (some 82) rfl rfl Tryd.func22 (by kernel_rfl) rfl #[.string (x6_1.extract 0 ((ji31) : Int).toNat)] rfl (by (try simp only [List.map_toArray, List.map_cons, List.map_nil]); first | done | (simp only [hji31]; rfl) | rfl | (simp only [List.length_drop, List.length_take]; rfl)) ?_; (with_reducible refine (crc_All.calls kj19 (x6_1.extract 0 ((ji31) : Int).toNat) t199 t200 t201 _ tbk A34.out).mono ?_); rintro e w44 ⟨v202, rfl, ho0, hb⟩; refine ⟨_, rfl, ?_⟩; have n0_ := Aside0.mk (Kd.R_below (by (with_reducible repeat (first | apply Kd.R_alloc | apply Kd.R_drewN | apply Kd.R_drew)); exact HO_7.out) hb); have n1_ := Aside0.mk (Kd.R_lower ho0 (below_size bw)); have n2_ := Aside0.mk (below_step bw hb); clear HO_7; clear HB; have HO_7 := n0_; have HO203 := n1_; have HB := n2_; clear n0_ n1_ n2_; (try clear hb); (try clear hb2); (try clear hk); (try clear hi); (try clear ho0); obtain ⟨i045, hi045, _, hsz45, _⟩ := info_parts info9; obtain ⟨hcut45, hA45, hC45⟩ := print_take_of (P := Tryd.prog) Value.string (⟨#[]⟩ : ByteArray) 37 9 .i64 Tryd.underlying37 hi045 hsz45 A0 c0 l0 x11_19 (of_decide_eq_true (by first | (with_reducible assumption) | assumption)) (of_decide_eq_true (by first | (with_reducible assumption) | assumption)) HC0.out; have HR204 := Aside0.mk (Kd.C_of_reads (h1 := fun _ => rfl) (hA45 _ (Kd.reads_of_C HR0.out))); have HC204 := Aside0.mk hC45; clear hA45 hC45 hi045 hsz45; obtain ⟨Ao46, co46, eo46⟩ := Kd.R_slice HO203.out; subst eo46) | ((with_reducible refine gate_callee (f := 23) rfl ?_); refine goesL_ (some 90) rfl rfl Tryd.func23 (by kernel_rfl) rfl #[.slice Ao46 t199.length co46, .slice A0 (l0.take (x11_19 : Int).toNat).length c0] rfl (by (try simp only [List.map_toArray, List.map_cons, List.map_nil]); first | done | (rw [show (l0.take (x11_19 : Int).toNat).length = x11_19.toNat from (by rw [List.length_take]; have h_ : (x11_19 : Int) ≤ (l0.length : Int) := of_decide_eq_true (by first | (with_reducible assumption) | assumption); omega)] <;> rfl) | rfl | (simp only [List.length_drop, List.length_take]; rfl)) ?_; (with_reducible refine (carillonlaw02_texts.calls kj19 _ _ t199 _ _ (l0.take (x11_19 : Int).toNat) true _ ?side1 ?side2 ?side3 ?side4 A37.out).mono ?_); (case side1 => repeat (first | exact (Kd.R_reads' HO203.out).2.2 | (with_reducible refine Kd.C_alloc ?_ _) | (with_reducible refine Kd.C_drewN ?_ _) | (with_reducible refine Kd.C_drew ?_))); (case side2 => exact (Kd.R_reads' HO203.out).2.1); (case side3 => repeat (first | exact (Kd.C_below HR204.out HB.out) | (with_reducible refine Kd.C_alloc ?_ _) | (with_reducible refine Kd.C_drewN ?_ _) | (with_reducible refine Kd.C_drew ?_))); (case side4 => exact HC204.out); rintro e w' ⟨rfl, ⟨nd, rfl⟩⟩; refine ⟨_, rfl, ?_⟩))
                                              go_ret
                                              exact ⟨by first | rfl | (simp [errW_none, errW_some] <;> rfl) | (simp only [← hji28, ← hji31]; first | rfl | (simp [errW_none, errW_some] <;> rfl)) | (simp [*, errW_none, errW_some] <;> rfl), bw⟩
                                            · rw [if_neg c42] at H
                                              have c42b0 : (t201 == 0) = false := beq_eq_false_iff_ne.mpr c42
                                              (try simp only [c42b0, Bool.not_true, Bool.not_false, Bool.false_or, Bool.true_or, Bool.true_and, Bool.false_and, Bool.true_beq, Bool.false_beq, beq_true, beq_false] at c41b0)
                                              have c42b1 : (t201 != 0) = true := bne_iff_ne.mpr c42
                                              obtain rfl := Option.some.inj H
                                              obtain ⟨Ao47, co47, eo47⟩ := Kd.R_slice HO_7.out
                                              subst eo47
                                              have p198 : 0 ≤ ((ji28) : Int) := of_decide_eq_true (by first | (with_reducible assumption) | assumption)
                                              have q198 : (ji28) < (x7_1.length : Int) := of_decide_eq_true (by first | (with_reducible assumption) | assumption)
                                              obtain ⟨ad198, e198, hx198_0⟩ := Kd.at_int (Kd.R_reads' HO_7.out).2.2 (ji28) p198 q198
                                              cases e198
                                              replace p198 := eq_true p198
                                              replace q198 := eq_true q198
                                              go_wp2_with (first | ((with_reducible refine gate_callee (f := 22) rfl ?_); refine goesL_ (some 82) rfl rfl Tryd.func22 (by kernel_rfl) rfl #[.string (x6_1.extract 0 ((ji31) : Int).toNat)] rfl (by (try simp only [List.map_toArray, List.map_cons, List.map_nil]); first | done | (simp only [hji31]; rfl) | rfl | (simp only [List.length_drop, List.length_take]; rfl)) ?_; (with_reducible refine (crc_All.calls kj19 (x6_1.extract 0 ((ji31) : Int).toNat) t199 t200 t201 _ tbk A34.out).mono ?_); rintro e w48 ⟨v202, rfl, ho0, hb⟩; refine ⟨_, rfl, ?_⟩; have n0_ := Aside0.mk (Kd.R_below (by (with_reducible repeat (first | apply Kd.R_alloc | apply Kd.R_drewN | apply Kd.R_drew)); exact HO_7.out) hb); have n1_ := Aside0.mk (Kd.R_lower ho0 (below_size bw)); have n2_ := Aside0.mk (below_step bw hb); clear HO_7; clear HB; have HO_7 := n0_; have HO203 := n1_; have HB := n2_; clear n0_ n1_ n2_; (try clear hb); (try clear hb2); (try clear hk); (try clear hi); (try clear ho0); obtain ⟨i049, hi049, _, hsz49, _⟩ := info_parts info9; obtain ⟨hcut49, hA49, hC49⟩ := print_take_of (P := Tryd.prog) Value.string (⟨#[]⟩ : ByteArray) 37 9 .i64 Tryd.underlying37 hi049 hsz49 A0 c0 l0 x11_19 (of_decide_eq_true (by first | (with_reducible assumption) | assumption)) (of_decide_eq_true (by first | (with_reducible assumption) | assumption)) HC0.out; have HR204 := Aside0.mk (Kd.C_of_reads (h1 := fun _ => rfl) (hA49 _ (Kd.reads_of_C HR0.out))); have HC204 := Aside0.mk hC49; clear hA49 hC49 hi049 hsz49; obtain ⟨Ao50, co50, eo50⟩ := Kd.R_slice HO203.out; subst eo50) | ((with_reducible refine gate_callee (f := 23) rfl ?_); refine goesL_ (some 90) rfl rfl Tryd.func23 (by kernel_rfl) rfl #[.slice Ao50 t199.length co50, .slice A0 (l0.take (x11_19 : Int).toNat).length c0] rfl (by (try simp only [List.map_toArray, List.map_cons, List.map_nil]); first | done | (rw [show (l0.take (x11_19 : Int).toNat).length = x11_19.toNat from (by rw [List.length_take]; have h_ : (x11_19 : Int) ≤ (l0.length : Int) := of_decide_eq_true (by first | (with_reducible assumption) | assumption); omega)] <;> rfl) | rfl | (simp only [List.length_drop, List.length_take]; rfl)) ?_; (with_reducible refine (carillonlaw02_texts.calls kj19 _ _ t199 _ _ (l0.take (x11_19 : Int).toNat) true _ ?side1 ?side2 ?side3 ?side4 A37.out).mono ?_); (case side1 => repeat (first | exact (Kd.R_reads' HO203.out).2.2 | (with_reducible refine Kd.C_alloc ?_ _) | (with_reducible refine Kd.C_drewN ?_ _) | (with_reducible refine Kd.C_drew ?_))); (case side2 => exact (Kd.R_reads' HO203.out).2.1); (case side3 => repeat (first | exact (Kd.C_below HR204.out HB.out) | (with_reducible refine Kd.C_alloc ?_ _) | (with_reducible refine Kd.C_drewN ?_ _) | (with_reducible refine Kd.C_drew ?_))); (case side4 => exact HC204.out); rintro e w' ⟨rfl, ⟨nd, rfl⟩⟩; refine ⟨_, rfl, ?_⟩))
                                              go_ret
                                              exact ⟨by first | rfl | (simp [errW_none, errW_some] <;> rfl) | (simp only [← hji28, ← hji31]; first | rfl | (simp [errW_none, errW_some] <;> rfl)) | (simp [*, errW_none, errW_some] <;> rfl), bw⟩
                                          · rw [if_neg c41] at H
                                            have c41b0 : ((t201 == 0) == ((rd x7_1 (ji28)) == (ji31))) = false := by simpa using c41
                                            (try (have c41b1 : decide ((t201 == 0) = ((rd x7_1 (ji28)) == (ji31))) = false := by simpa using c41))
                                            (try (have c41b2 : ((t201 == 0) == ((rd x7_1 (ji28)) == (ji31))) = false := by simpa using c41))
                                            (try (have c41b3 : ¬ ((t201 == 0) = ((rd x7_1 (ji28)) == (ji31))) := by simpa using c41))
                                            clear c41
                                            exact absurd ((Option.some.inj H).trans hr_.out) (by decide)
                                        · rw [if_neg c40] at H
                                          have c40b0 : (t200 == (rd x7_1 (ji28))) = false := beq_eq_false_iff_ne.mpr c40
                                          have c40b1 : (t200 != (rd x7_1 (ji28))) = true := bne_iff_ne.mpr c40
                                          exact absurd ((Option.some.inj H).trans hr_.out) (by decide)
                                      · replace c39 := Bool.eq_false_iff.mpr c39
                                        subst c39
                                        have H1 : (some false) = some r := by rw [if_neg (show ¬ (false = true) by decide)] at H; exact H
                                        clear H
                                        have H := H1
                                        clear H1
                                        exact absurd ((Option.some.inj H).trans hr_.out) (by decide)
                                    · replace c38 := Bool.eq_false_iff.mpr c38
                                      subst c38
                                      have H1 : (some false) = some r := by rw [if_neg (show ¬ (false = true) by decide)] at H; exact H
                                      clear H
                                      have H := H1
                                      clear H1
                                      exact absurd ((Option.some.inj H).trans hr_.out) (by decide)
                                  · rw [if_neg c36] at H
                                    exact absurd H (by simp)
                                · rw [if_neg c35] at H
                                  exact absurd H (by simp)
                              · rw [if_neg c33] at H
                                exact absurd H (by simp)
                            · rw [if_neg c32] at H
                              exact absurd H (by simp)
                          · rw [if_neg c30] at H
                            exact absurd H (by simp)
                        · rw [if_neg c29] at H
                          exact absurd H (by simp)
                      · rw [if_neg c27] at H
                        have c27b0 : decide (0 < x11_19) = false := decide_eq_false c27
                        clear c27
                        obtain ⟨ji51, hji51⟩ : ∃ j_ : Int, (Int.tmod x1_16 (wrap64 ((x6_1.size : Int) + 1))) = j_ := ⟨_, rfl⟩
                        replace H : (if 0 ≤ (ji51) then (if (ji51) ≤ (x6_1.size : Int) then ((crc_All.f kj19 (x6_1.extract 0 ((ji51) : Int).toNat)).bind fun bt206 => (if 0 ≤ x11_19 then (if x11_19 ≤ (l0.length : Int) then ((carillonlaw02_texts.f kj19 bt206.1 (l0.take (x11_19 : Int).toNat)).bind fun t212 => (if t190 = true then (if t212 = true then (if bt206.2.1 = 0 then (if ((bt206.2.2 == 0) == (0 == (ji51))) = true then (if bt206.2.2 = 0 then (some true) else (some (bt206.2.2 == 2))) else (some false)) else (some false)) else (some false)) else (some false))) else (none)) else (none))) else (none)) else (none)) = some r := by first | (rw [hji51] at H; exact H) | (simp only [hji51] at H ⊢; exact H)
                        by_cases c52 : 0 ≤ (ji51)
                        · rw [if_pos c52] at H
                          have c52b0 := eq_true c52
                          have c52b1 : decide (0 ≤ (ji51)) = true := decide_eq_true c52
                          clear c52
                          by_cases c53 : (ji51) ≤ (x6_1.size : Int)
                          · rw [if_pos c53] at H
                            have c53b0 := eq_true c53
                            have c53b1 : decide ((ji51) ≤ (x6_1.size : Int)) = true := decide_eq_true c53
                            clear c53
                            replace H := Option.bind_eq_some_iff.mp H
                            obtain ⟨⟨t206, t207, t208⟩, A540, H⟩ := H
                            replace H : (if 0 ≤ x11_19 then (if x11_19 ≤ (l0.length : Int) then ((carillonlaw02_texts.f kj19 t206 (l0.take (x11_19 : Int).toNat)).bind fun t212 => (if t190 = true then (if t212 = true then (if t207 = 0 then (if ((t208 == 0) == (0 == (ji51))) = true then (if t208 = 0 then (some true) else (some (t208 == 2))) else (some false)) else (some false)) else (some false)) else (some false))) else (none)) else (none)) = some r := H
                            have A54 := Aside0.mk A540
                            clear A540
                            by_cases c55 : 0 ≤ x11_19
                            · rw [if_pos c55] at H
                              have c55b0 := eq_true c55
                              have c55b1 : decide (0 ≤ x11_19) = true := decide_eq_true c55
                              clear c55
                              by_cases c56 : x11_19 ≤ (l0.length : Int)
                              · rw [if_pos c56] at H
                                have c56b0 := eq_true c56
                                have c56b1 : decide (x11_19 ≤ (l0.length : Int)) = true := decide_eq_true c56
                                clear c56
                                replace H := Option.bind_eq_some_iff.mp H
                                obtain ⟨t212, A570, H⟩ := H
                                replace H : (if t190 = true then (if t212 = true then (if t207 = 0 then (if ((t208 == 0) == (0 == (ji51))) = true then (if t208 = 0 then (some true) else (some (t208 == 2))) else (some false)) else (some false)) else (some false)) else (some false)) = some r := H
                                have A57 := Aside0.mk A570
                                clear A570
                                by_cases c58 : t190 = true
                                · subst c58
                                  have H1 : (if t212 = true then (if t207 = 0 then (if ((t208 == 0) == (0 == (ji51))) = true then (if t208 = 0 then (some true) else (some (t208 == 2))) else (some false)) else (some false)) else (some false)) = some r := by rw [if_pos rfl] at H; exact H
                                  clear H
                                  have H := H1
                                  clear H1
                                  by_cases c59 : t212 = true
                                  · subst c59
                                    have H1 : (if t207 = 0 then (if ((t208 == 0) == (0 == (ji51))) = true then (if t208 = 0 then (some true) else (some (t208 == 2))) else (some false)) else (some false)) = some r := by rw [if_pos rfl] at H; exact H
                                    clear H
                                    have H := H1
                                    clear H1
                                    by_cases c60 : t207 = 0
                                    · rw [if_pos c60] at H
                                      have c60b0 : (t207 == 0) = true := beq_iff_eq.mpr c60
                                      have c60b1 : (t207 != 0) = false := bne_eq_false_iff_eq.mpr c60
                                      clear c60
                                      by_cases c61 : ((t208 == 0) == (0 == (ji51))) = true
                                      · rw [if_pos c61] at H
                                        have c61b0 : ((t208 == 0) == (0 == (ji51))) = true := c61
                                        (try (have c61b1 : decide ((t208 == 0) = (0 == (ji51))) = true := by simpa using c61))
                                        (try (have c61b2 : ((t208 == 0) == (0 == (ji51))) = true := by simpa using c61))
                                        clear c61
                                        by_cases c62 : t208 = 0
                                        · rw [if_pos c62] at H
                                          have c62b0 : (t208 == 0) = true := beq_iff_eq.mpr c62
                                          (try simp only [c62b0, Bool.not_true, Bool.not_false, Bool.false_or, Bool.true_or, Bool.true_and, Bool.false_and, Bool.true_beq, Bool.false_beq, beq_true, beq_false] at c61b0)
                                          have c62b1 : (t208 != 0) = false := bne_eq_false_iff_eq.mpr c62
                                          clear c62
                                          obtain rfl := Option.some.inj H
                                          go_wp2_with (first | ((with_reducible refine gate_callee (f := 22) rfl ?_); refine goesL_ (some 82) rfl rfl Tryd.func22 (by kernel_rfl) rfl #[.string (x6_1.extract 0 ((ji51) : Int).toNat)] rfl (by (try simp only [List.map_toArray, List.map_cons, List.map_nil]); first | done | (simp only [hji51]; rfl) | rfl | (simp only [List.length_drop, List.length_take]; rfl)) ?_; (with_reducible refine (crc_All.calls kj19 (x6_1.extract 0 ((ji51) : Int).toNat) t206 t207 t208 _ tbk A54.out).mono ?_); rintro e w63 ⟨v209, rfl, ho0, hb⟩; refine ⟨_, rfl, ?_⟩; have n0_ := Aside0.mk (Kd.R_below (by (with_reducible repeat (first | apply Kd.R_alloc | apply Kd.R_drewN | apply Kd.R_drew)); exact HO_7.out) hb); have n1_ := Aside0.mk (Kd.R_lower ho0 (below_size bw)); have n2_ := Aside0.mk (below_step bw hb); clear HO_7; clear HB; have HO_7 := n0_; have HO210 := n1_; have HB := n2_; clear n0_ n1_ n2_; (try clear hb); (try clear hb2); (try clear hk); (try clear hi); (try clear ho0); obtain ⟨i064, hi064, _, hsz64, _⟩ := info_parts info9; obtain ⟨hcut64, hA64, hC64⟩ := print_take_of (P := Tryd.prog) Value.string (⟨#[]⟩ : ByteArray) 37 9 .i64 Tryd.underlying37 hi064 hsz64 A0 c0 l0 x11_19 (of_decide_eq_true (by first | (with_reducible assumption) | assumption)) (of_decide_eq_true (by first | (with_reducible assumption) | assumption)) HC0.out; have HR211 := Aside0.mk (Kd.C_of_reads (h1 := fun _ => rfl) (hA64 _ (Kd.reads_of_C HR0.out))); have HC211 := Aside0.mk hC64; clear hA64 hC64 hi064 hsz64; obtain ⟨Ao65, co65, eo65⟩ := Kd.R_slice HO210.out; subst eo65) | ((with_reducible refine gate_callee (f := 23) rfl ?_); refine goesL_ (some 90) rfl rfl Tryd.func23 (by kernel_rfl) rfl #[.slice Ao65 t206.length co65, .slice A0 (l0.take (x11_19 : Int).toNat).length c0] rfl (by (try simp only [List.map_toArray, List.map_cons, List.map_nil]); first | done | (rw [show (l0.take (x11_19 : Int).toNat).length = x11_19.toNat from (by rw [List.length_take]; have h_ : (x11_19 : Int) ≤ (l0.length : Int) := of_decide_eq_true (by first | (with_reducible assumption) | assumption); omega)] <;> rfl) | rfl | (simp only [List.length_drop, List.length_take]; rfl)) ?_; (with_reducible refine (carillonlaw02_texts.calls kj19 _ _ t206 _ _ (l0.take (x11_19 : Int).toNat) true _ ?side1 ?side2 ?side3 ?side4 A57.out).mono ?_); (case side1 => repeat (first | exact (Kd.R_reads' HO210.out).2.2 | (with_reducible refine Kd.C_alloc ?_ _) | (with_reducible refine Kd.C_drewN ?_ _) | (with_reducible refine Kd.C_drew ?_))); (case side2 => exact (Kd.R_reads' HO210.out).2.1); (case side3 => repeat (first | exact (Kd.C_below HR211.out HB.out) | (with_reducible refine Kd.C_alloc ?_ _) | (with_reducible refine Kd.C_drewN ?_ _) | (with_reducible refine Kd.C_drew ?_))); (case side4 => exact HC211.out); rintro e w' ⟨rfl, ⟨nd, rfl⟩⟩; refine ⟨_, rfl, ?_⟩))
                                          go_ret
                                          exact ⟨by first | rfl | (simp [errW_none, errW_some] <;> rfl) | (simp only [← hji51]; first | rfl | (simp [errW_none, errW_some] <;> rfl)) | (simp [*, errW_none, errW_some] <;> rfl), bw⟩
                                        · rw [if_neg c62] at H
                                          have c62b0 : (t208 == 0) = false := beq_eq_false_iff_ne.mpr c62
                                          (try simp only [c62b0, Bool.not_true, Bool.not_false, Bool.false_or, Bool.true_or, Bool.true_and, Bool.false_and, Bool.true_beq, Bool.false_beq, beq_true, beq_false] at c61b0)
                                          have c62b1 : (t208 != 0) = true := bne_iff_ne.mpr c62
                                          obtain rfl := Option.some.inj H
                                          go_wp2_with (first | ((with_reducible refine gate_callee (f := 22) rfl ?_); refine goesL_ (some 82) rfl rfl Tryd.func22 (by kernel_rfl) rfl #[.string (x6_1.extract 0 ((ji51) : Int).toNat)] rfl (by (try simp only [List.map_toArray, List.map_cons, List.map_nil]); first | done | (simp only [hji51]; rfl) | rfl | (simp only [List.length_drop, List.length_take]; rfl)) ?_; (with_reducible refine (crc_All.calls kj19 (x6_1.extract 0 ((ji51) : Int).toNat) t206 t207 t208 _ tbk A54.out).mono ?_); rintro e w66 ⟨v209, rfl, ho0, hb⟩; refine ⟨_, rfl, ?_⟩; have n0_ := Aside0.mk (Kd.R_below (by (with_reducible repeat (first | apply Kd.R_alloc | apply Kd.R_drewN | apply Kd.R_drew)); exact HO_7.out) hb); have n1_ := Aside0.mk (Kd.R_lower ho0 (below_size bw)); have n2_ := Aside0.mk (below_step bw hb); clear HO_7; clear HB; have HO_7 := n0_; have HO210 := n1_; have HB := n2_; clear n0_ n1_ n2_; (try clear hb); (try clear hb2); (try clear hk); (try clear hi); (try clear ho0); obtain ⟨i067, hi067, _, hsz67, _⟩ := info_parts info9; obtain ⟨hcut67, hA67, hC67⟩ := print_take_of (P := Tryd.prog) Value.string (⟨#[]⟩ : ByteArray) 37 9 .i64 Tryd.underlying37 hi067 hsz67 A0 c0 l0 x11_19 (of_decide_eq_true (by first | (with_reducible assumption) | assumption)) (of_decide_eq_true (by first | (with_reducible assumption) | assumption)) HC0.out; have HR211 := Aside0.mk (Kd.C_of_reads (h1 := fun _ => rfl) (hA67 _ (Kd.reads_of_C HR0.out))); have HC211 := Aside0.mk hC67; clear hA67 hC67 hi067 hsz67; obtain ⟨Ao68, co68, eo68⟩ := Kd.R_slice HO210.out; subst eo68) | ((with_reducible refine gate_callee (f := 23) rfl ?_); refine goesL_ (some 90) rfl rfl Tryd.func23 (by kernel_rfl) rfl #[.slice Ao68 t206.length co68, .slice A0 (l0.take (x11_19 : Int).toNat).length c0] rfl (by (try simp only [List.map_toArray, List.map_cons, List.map_nil]); first | done | (rw [show (l0.take (x11_19 : Int).toNat).length = x11_19.toNat from (by rw [List.length_take]; have h_ : (x11_19 : Int) ≤ (l0.length : Int) := of_decide_eq_true (by first | (with_reducible assumption) | assumption); omega)] <;> rfl) | rfl | (simp only [List.length_drop, List.length_take]; rfl)) ?_; (with_reducible refine (carillonlaw02_texts.calls kj19 _ _ t206 _ _ (l0.take (x11_19 : Int).toNat) true _ ?side1 ?side2 ?side3 ?side4 A57.out).mono ?_); (case side1 => repeat (first | exact (Kd.R_reads' HO210.out).2.2 | (with_reducible refine Kd.C_alloc ?_ _) | (with_reducible refine Kd.C_drewN ?_ _) | (with_reducible refine Kd.C_drew ?_))); (case side2 => exact (Kd.R_reads' HO210.out).2.1); (case side3 => repeat (first | exact (Kd.C_below HR211.out HB.out) | (with_reducible refine Kd.C_alloc ?_ _) | (with_reducible refine Kd.C_drewN ?_ _) | (with_reducible refine Kd.C_drew ?_))); (case side4 => exact HC211.out); rintro e w' ⟨rfl, ⟨nd, rfl⟩⟩; refine ⟨_, rfl, ?_⟩))
                                          go_ret
                                          exact ⟨by first | rfl | (simp [errW_none, errW_some] <;> rfl) | (simp only [← hji51]; first | rfl | (simp [errW_none, errW_some] <;> rfl)) | (simp [*, errW_none, errW_some] <;> rfl), bw⟩
                                      · rw [if_neg c61] at H
                                        have c61b0 : ((t208 == 0) == (0 == (ji51))) = false := by simpa using c61
                                        (try (have c61b1 : decide ((t208 == 0) = (0 == (ji51))) = false := by simpa using c61))
                                        (try (have c61b2 : ((t208 == 0) == (0 == (ji51))) = false := by simpa using c61))
                                        (try (have c61b3 : ¬ ((t208 == 0) = (0 == (ji51))) := by simpa using c61))
                                        clear c61
                                        exact absurd ((Option.some.inj H).trans hr_.out) (by decide)
                                    · rw [if_neg c60] at H
                                      have c60b0 : (t207 == 0) = false := beq_eq_false_iff_ne.mpr c60
                                      have c60b1 : (t207 != 0) = true := bne_iff_ne.mpr c60
                                      exact absurd ((Option.some.inj H).trans hr_.out) (by decide)
                                  · replace c59 := Bool.eq_false_iff.mpr c59
                                    subst c59
                                    have H1 : (some false) = some r := by rw [if_neg (show ¬ (false = true) by decide)] at H; exact H
                                    clear H
                                    have H := H1
                                    clear H1
                                    exact absurd ((Option.some.inj H).trans hr_.out) (by decide)
                                · replace c58 := Bool.eq_false_iff.mpr c58
                                  subst c58
                                  have H1 : (some false) = some r := by rw [if_neg (show ¬ (false = true) by decide)] at H; exact H
                                  clear H
                                  have H := H1
                                  clear H1
                                  exact absurd ((Option.some.inj H).trans hr_.out) (by decide)
                              · rw [if_neg c56] at H
                                exact absurd H (by simp)
                            · rw [if_neg c55] at H
                              exact absurd H (by simp)
                          · rw [if_neg c53] at H
                            exact absurd H (by simp)
                        · rw [if_neg c52] at H
                          exact absurd H (by simp)

-- NOT PRINTED: function 9 (carillonlaw02_CrcBit)

-- NOT PRINTED: function 10 (carillonlaw02_CrcBurst)

end Go.Proofs.YtkcooehlahifkaaDoor.P
