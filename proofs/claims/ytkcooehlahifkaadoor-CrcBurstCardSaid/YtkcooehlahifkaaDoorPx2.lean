-- Printed by this session's program wip/xp.py (a turned copy of the kit's printer): functions, their contracts.
import Derived.Test.YtkcooehlahifkaaDoorPx0
import Derived.Test.YtkcooehlahifkaaDoorPx1
namespace Go.Proofs.YtkcooehlahifkaaDoor.P
open Go.RowKit Go.Proofs.YtkcooehlahifkaaDoorW.PrintWords Go.Proofs.YtkcooehlahifkaaDoorW.PrintLast Go.Proofs.YtkcooehlahifkaaDoorW.PrintMore
attribute [local go_sem] max2_int min2_int max_two min_two max_three min_three max_four min_four   -- for this text's walks alone
set_option linter.unusedVariables false
set_option linter.unusedSimpArgs false

/-! ### carillonref02_More: function 16 -/
mutual
def carillonref02_More.l0 : Nat → ByteArray → Int → Int → Option (Int)
  | 0, _, _, _ => none
  | k + 1, x1, x5, x6 => if x6 < (x1.size : Int) then (carillonref02_More.l1 k x1 x5 x6 0) else (some (Go.bits .xor .u32 x5 4294967295))
def carillonref02_More.l1 : Nat → ByteArray → Int → Int → Int → Option (Int)
  | 0, _, _, _, _ => none
  | k + 1, x1, x5, x6, x7 => if x7 < 8 then (if 0 ≤ x6 then (if x6 < (x1.size : Int) then (if 0 ≤ x7 then (if (((shr .u8 (bt x1 x6) x7) % 4294967296) % 2) = (Int.tmod x5 2) then (carillonref02_More.l1 k x1 ((Int.tdiv x5 2) % 4294967296) x6 (wrap64 (x7 + 1))) else (carillonref02_More.l1 k x1 (Go.bits .xor .u32 ((Int.tdiv x5 2) % 4294967296) 2197175160) x6 (wrap64 (x7 + 1)))) else (none)) else (none)) else (none)) else (carillonref02_More.l0 k x1 x5 (wrap64 (x6 + 1)))
end
def carillonref02_More.f (k : Nat) (a0 : Int) (a1 : ByteArray) : Option (Int) := carillonref02_More.l0 k a1 (Go.bits .xor .u32 a0 4294967295) 0
theorem carillonref02_More.mono_l : ∀ k, (∀ y0 y1 y2, LeO (carillonref02_More.l0 k y0 y1 y2) (carillonref02_More.l0 (k + 1) y0 y1 y2)) ∧ (∀ y0 y1 y2 y3, LeO (carillonref02_More.l1 k y0 y1 y2 y3) (carillonref02_More.l1 (k + 1) y0 y1 y2 y3))
  | 0 => ⟨fun _ _ _ r h => by simp [carillonref02_More.l0] at h, fun _ _ _ _ r h => by simp [carillonref02_More.l1] at h⟩
  | k + 1 => by
    obtain ⟨ih0, ih1⟩ := carillonref02_More.mono_l k
    refine ⟨?_, ?_⟩
    · intro y0 y1 y2
      unfold carillonref02_More.l0
      repeat' first
      | (with_reducible exact ih0 _ _ _)
      | (with_reducible exact ih1 _ _ _ _)
      | (with_reducible exact LeO.refl _)
      | (with_reducible exact LeO.none _)
      | (with_reducible refine LeO.ite ?_ ?_)
      | (with_reducible refine LeO.bind ?_ (fun _ => ?_))
      | exact ih0 _ _ _
      | exact ih1 _ _ _ _
      | exact LeO.none _
      | refine LeO.ite ?_ ?_
      | refine LeO.bind ?_ (fun _ => ?_)
    · intro y0 y1 y2 y3
      unfold carillonref02_More.l1
      repeat' first
      | (with_reducible exact ih0 _ _ _)
      | (with_reducible exact ih1 _ _ _ _)
      | (with_reducible exact LeO.refl _)
      | (with_reducible exact LeO.none _)
      | (with_reducible refine LeO.ite ?_ ?_)
      | (with_reducible refine LeO.bind ?_ (fun _ => ?_))
      | exact ih0 _ _ _
      | exact ih1 _ _ _ _
      | exact LeO.none _
      | refine LeO.ite ?_ ?_
      | refine LeO.bind ?_ (fun _ => ?_)
theorem carillonref02_More.mono : ∀ a0 a1 k, LeO (carillonref02_More.f k a0 a1) (carillonref02_More.f (k + 1) a0 a1) := by
  intro a0 a1 k
  obtain ⟨ih0, ih1⟩ := carillonref02_More.mono_l k
  unfold carillonref02_More.f
  repeat' first
      | (with_reducible exact ih0 _ _ _)
      | (with_reducible exact ih1 _ _ _ _)
      | (with_reducible exact LeO.refl _)
      | (with_reducible exact LeO.none _)
      | (with_reducible refine LeO.ite ?_ ?_)
      | (with_reducible refine LeO.bind ?_ (fun _ => ?_))
      | exact ih0 _ _ _
      | exact ih1 _ _ _ _
      | exact LeO.none _
      | refine LeO.ite ?_ ?_
      | refine LeO.bind ?_ (fun _ => ?_)
set_option maxHeartbeats 8000000 in
set_option maxRecDepth 100000 in
theorem carillonref02_More.calls (k : Nat) (a0 : Int) (a1 : ByteArray) (r : Int) (w : World) (h : carillonref02_More.f k a0 a1 = some r) :
    Calls Tryd.prog 16 #[.int .u32 a0, .string a1] w fun e w' => e = .returned (.int .u32 r) ∧ Drawn0 w w' := by
  have H : (carillonref02_More.l0 k a1 (Go.bits .xor .u32 a0 4294967295) 0) = some r := h
  clear h
  have H' := Aside0.mk H
  clear H
  go_enter Tryd.func16, Tryd.ntmps16
  go_wp2
  go_loopg [5, 6] k (fun kq v5 v6 w' => ∃ (x5_1 : Int) (x6_1 : Int), v5 = .int .u32 x5_1 ∧ v6 = .int .i64 x6_1 ∧ Aside0 (carillonref02_More.l0 kq a1 x5_1 x6_1 = some r) ∧ Aside0 (kq ≤ k) ∧ Drawn0 w w')
  case atStart => exact ⟨(Go.bits .xor .u32 a0 4294967295), (0), (by first | rfl | (simp; done) | (simp [*]; done)), (by first | rfl | (simp; done) | (simp [*]; done)), H', ⟨Nat.le_refl _⟩, by repeat (first | exact Drawn0.refl _ | apply Drawn0.step)⟩
  case round =>
    clear H'
    try clear c1
    try clear p2
    obtain ⟨x5_1, x6_1, rfl, rfl, HA, HK1, ⟨m1, rfl⟩⟩ := hrel
    cases gk with
    | zero => exact absurd HA.out (by simp [carillonref02_More.l0])
    | succ k1 =>
      have H := HA.out
      clear HA
      simp only [carillonref02_More.l0] at H
      by_cases c3 : x6_1 < (a1.size : Int)
      · rw [if_pos c3] at H
        have c3b0 : decide (x6_1 < (a1.size : Int)) = true := decide_eq_true c3
        clear c3
        have H' := Aside0.mk H
        clear H
        go_wp2
        go_loopg [5, 7] k1 (fun kq v5 v7 w' => ∃ (x5_2 : Int) (x7_2 : Int), v5 = .int .u32 x5_2 ∧ v7 = .int .i64 x7_2 ∧ Aside0 (carillonref02_More.l1 kq a1 x5_2 x6_1 x7_2 = some r) ∧ Aside0 (kq ≤ k1) ∧ Drawn0 w w')
        case atStart => exact ⟨(x5_1), (0), (by first | rfl | (simp; done) | (simp [*]; done)), (by first | rfl | (simp; done) | (simp [*]; done)), H', ⟨Nat.le_refl _⟩, by repeat (first | exact Drawn0.refl _ | apply Drawn0.step)⟩
        case round =>
          clear H'
          try clear c1
          try clear p2
          try clear c3
          try clear c3b0
          try clear p2
          obtain ⟨x5_2, x7_2, rfl, rfl, HA, HK2, ⟨m2, rfl⟩⟩ := hrel
          cases gk with
          | zero => exact absurd HA.out (by simp [carillonref02_More.l1])
          | succ k2 =>
            have H := HA.out
            clear HA
            simp only [carillonref02_More.l1] at H
            by_cases c4 : x7_2 < 8
            · rw [if_pos c4] at H
              have c4b0 : decide (x7_2 < 8) = true := decide_eq_true c4
              clear c4
              by_cases c5 : 0 ≤ x6_1
              · rw [if_pos c5] at H
                have c5b0 : decide (0 ≤ x6_1) = true := decide_eq_true c5
                clear c5
                by_cases c6 : x6_1 < (a1.size : Int)
                · rw [if_pos c6] at H
                  have c6b0 : decide (x6_1 < (a1.size : Int)) = true := decide_eq_true c6
                  clear c6
                  by_cases c8 : 0 ≤ x7_2
                  · rw [if_pos c8] at H
                    have c8b0 := eq_true c8
                    have c8b1 : decide (0 ≤ x7_2) = true := decide_eq_true c8
                    clear c8
                    obtain ⟨ji9, hji9⟩ : ∃ j_ : Int, (shr .u8 (bt a1 x6_1) x7_2) = j_ := ⟨_, rfl⟩
                    replace H : (if (((ji9) % 4294967296) % 2) = (Int.tmod x5_2 2) then (carillonref02_More.l1 k2 a1 ((Int.tdiv x5_2 2) % 4294967296) x6_1 (wrap64 (x7_2 + 1))) else (carillonref02_More.l1 k2 a1 (Go.bits .xor .u32 ((Int.tdiv x5_2 2) % 4294967296) 2197175160) x6_1 (wrap64 (x7_2 + 1)))) = some r := by first | (rw [hji9] at H; exact H) | (simp only [hji9] at H ⊢; exact H)
                    have hji9_ : ((bt a1 x6_1) / 2 ^ min x7_2.toNat 8) = ji9 := hji9
                    have hji9z : x7_2 ≤ 8 → ((bt a1 x6_1) / 2 ^ x7_2.toNat) = ji9 := shr_small hji9
                    by_cases c10 : (((ji9) % 4294967296) % 2) = (Int.tmod x5_2 2)
                    · rw [if_pos c10] at H
                      have c10b0 : ((((ji9) % 4294967296) % 2) == (Int.tmod x5_2 2)) = true := beq_iff_eq.mpr c10
                      have c10b1 : ((((ji9) % 4294967296) % 2) != (Int.tmod x5_2 2)) = false := bne_eq_false_iff_eq.mpr c10
                      clear c10
                      have H' := Aside0.mk H
                      clear H
                      have p7 : 0 ≤ (x6_1 : Int) := of_decide_eq_true (by first | (with_reducible assumption) | assumption)
                      have q7 : x6_1 < (a1.size : Int) := of_decide_eq_true (by first | (with_reducible assumption) | assumption)
                      have hx7 := bt_at a1 x6_1
                      replace p7 := eq_true p7
                      replace q7 := eq_true q7
                      go_wp2
                      go_roundg k2
                      case measure => have := HK1.out; have := HK2.out; omega
                      case rel => exact ⟨((Int.tdiv x5_2 2) % 4294967296), (wrap64 (x7_2 + 1)), (by first | rfl | (simp; done) | (simp [*]; done)), (by first | rfl | (simp; done) | (simp [*]; done)), H', ⟨by have := HK1.out; have := HK2.out; omega⟩, by repeat (first | exact Drawn0.refl _ | apply Drawn0.step)⟩
                    · rw [if_neg c10] at H
                      have c10b0 : ((((ji9) % 4294967296) % 2) == (Int.tmod x5_2 2)) = false := beq_eq_false_iff_ne.mpr c10
                      have c10b1 : ((((ji9) % 4294967296) % 2) != (Int.tmod x5_2 2)) = true := bne_iff_ne.mpr c10
                      have H' := Aside0.mk H
                      clear H
                      have p7 : 0 ≤ (x6_1 : Int) := of_decide_eq_true (by first | (with_reducible assumption) | assumption)
                      have q7 : x6_1 < (a1.size : Int) := of_decide_eq_true (by first | (with_reducible assumption) | assumption)
                      have hx7 := bt_at a1 x6_1
                      replace p7 := eq_true p7
                      replace q7 := eq_true q7
                      go_wp2
                      go_roundg k2
                      case measure => have := HK1.out; have := HK2.out; omega
                      case rel => exact ⟨(Go.bits .xor .u32 ((Int.tdiv x5_2 2) % 4294967296) 2197175160), (wrap64 (x7_2 + 1)), (by first | rfl | (simp; done) | (simp [*]; done)), (by first | rfl | (simp; done) | (simp [*]; done)), H', ⟨by have := HK1.out; have := HK2.out; omega⟩, by repeat (first | exact Drawn0.refl _ | apply Drawn0.step)⟩
                  · rw [if_neg c8] at H
                    exact absurd H (by simp)
                · rw [if_neg c6] at H
                  exact absurd H (by simp)
              · rw [if_neg c5] at H
                exact absurd H (by simp)
            · rw [if_neg c4] at H
              have c4b0 : decide (x7_2 < 8) = false := decide_eq_false c4
              clear c4
              have H' := Aside0.mk H
              clear H
              go_wp2
              go_roundg k2
              case measure => have := HK1.out; have := HK2.out; omega
              case rel => exact ⟨(x5_2), (wrap64 (x6_1 + 1)), (by first | rfl | (simp; done) | (simp [*]; done)), (by first | rfl | (simp; done) | (simp [*]; done)), H', ⟨by have := HK1.out; have := HK2.out; omega⟩, by repeat (first | exact Drawn0.refl _ | apply Drawn0.step)⟩
      · rw [if_neg c3] at H
        have c3b0 : decide (x6_1 < (a1.size : Int)) = false := decide_eq_false c3
        clear c3
        obtain rfl := Option.some.inj H
        go_wp2
        go_ret
        exact ⟨by first | rfl | (simp; done) | (simp [*]; done), by repeat (first | exact Drawn0.refl _ | apply Drawn0.step)⟩

/-! ### carillonref02_Sum: function 14 -/
def carillonref02_Sum.f (k : Nat) (a0 : ByteArray) : Option (Int) := (carillonref02_More.f k 0 a0).bind fun t127 => (some t127)
theorem carillonref02_Sum.mono : ∀ a0 k, LeO (carillonref02_Sum.f k a0) (carillonref02_Sum.f (k + 1) a0) := by
  intro a0 k
  unfold carillonref02_Sum.f
  repeat' first
      | (with_reducible exact carillonref02_More.mono _ _ _)
      | (with_reducible exact LeO.refl _)
      | (with_reducible exact LeO.none _)
      | (with_reducible refine LeO.ite ?_ ?_)
      | (with_reducible refine LeO.bind ?_ (fun _ => ?_))
      | exact carillonref02_More.mono _ _ _
      | exact LeO.none _
      | refine LeO.ite ?_ ?_
      | refine LeO.bind ?_ (fun _ => ?_)
set_option maxHeartbeats 8000000 in
set_option maxRecDepth 100000 in
theorem carillonref02_Sum.calls (k : Nat) (a0 : ByteArray) (r : Int) (w : World) (h : carillonref02_Sum.f k a0 = some r) :
    Calls Tryd.prog 14 #[.string a0] w fun e w' => e = .returned (.int .u32 r) ∧ Drawn0 w w' := by
  have H : ((carillonref02_More.f k 0 a0).bind fun t127 => (some t127)) = some r := h
  clear h
  replace H := Option.bind_eq_some_iff.mp H
  obtain ⟨t127, A20, H⟩ := H
  replace H : (some t127) = some r := H
  have A2 := Aside0.mk A20
  clear A20
  obtain rfl := Option.some.inj H
  go_enter Tryd.func14, Tryd.ntmps14
  go_wp2_with (first | ((with_reducible refine gate_callee (f := 16) rfl ?_); refine goesL_ (some 4) rfl rfl Tryd.func16 (by kernel_rfl) rfl #[.int .u32 0, .string a0] rfl am ?_; (with_reducible refine (carillonref02_More.calls k 0 a0 t127 _ A2.out).mono ?_); rintro e w' ⟨rfl, ⟨nd, rfl⟩⟩; refine ⟨_, rfl, ?_⟩))
  go_ret
  exact ⟨by first | rfl | (simp; done) | (simp [*]; done), by repeat (first | exact Drawn0.refl _ | apply Drawn0.step)⟩

/-! ### carillonlaw02_CrcSums: function 3 -/
def carillonlaw02_CrcSums.f (k : Nat) (a0 : ByteArray) (a1 : Int) : Option (Bool) := (carillonlaw02_examples.f).bind fun t128 => (if t128 = true then ((crc_Sum.f a0).bind fun t129 => ((carillonref02_Sum.f k a0).bind fun t130 => (if t129 = t130 then ((crc_More.f a1 a0).bind fun t131 => ((carillonref02_More.f k a1 a0).bind fun t132 => (some (t131 == t132)))) else (some false)))) else (some false))
theorem carillonlaw02_CrcSums.mono : ∀ a0 a1 k, LeO (carillonlaw02_CrcSums.f k a0 a1) (carillonlaw02_CrcSums.f (k + 1) a0 a1) := by
  intro a0 a1 k
  unfold carillonlaw02_CrcSums.f
  repeat' first
      | (with_reducible exact carillonref02_More.mono _ _ _)
      | (with_reducible exact carillonref02_Sum.mono _ _)
      | (with_reducible exact LeO.refl _)
      | (with_reducible exact LeO.none _)
      | (with_reducible refine LeO.ite ?_ ?_)
      | (with_reducible refine LeO.bind ?_ (fun _ => ?_))
      | exact carillonref02_More.mono _ _ _
      | exact carillonref02_Sum.mono _ _
      | exact LeO.none _
      | refine LeO.ite ?_ ?_
      | refine LeO.bind ?_ (fun _ => ?_)
set_option maxHeartbeats 8000000 in
set_option maxRecDepth 100000 in
theorem carillonlaw02_CrcSums.calls (k : Nat) (a0 : ByteArray) (a1 : Int) (r : Bool) (w : World) (hr_ : Aside0 (r = true)) (HT_ : TabOk w) (h : carillonlaw02_CrcSums.f k a0 a1 = some r) :
    Calls Tryd.prog 3 #[.string a0, .int .u32 a1] w fun e w' => e = .returned (.bool r) ∧ Below w.heap.size w w' := by
  have HT := Aside0.mk HT_
  clear HT_
  have HB := Aside0.mk (Below.refl w.heap.size w)
  have H : ((carillonlaw02_examples.f).bind fun t128 => (if t128 = true then ((crc_Sum.f a0).bind fun t129 => ((carillonref02_Sum.f k a0).bind fun t130 => (if t129 = t130 then ((crc_More.f a1 a0).bind fun t131 => ((carillonref02_More.f k a1 a0).bind fun t132 => (some (t131 == t132)))) else (some false)))) else (some false))) = some r := h
  clear h
  replace H := Option.bind_eq_some_iff.mp H
  obtain ⟨t128, A30, H⟩ := H
  replace H : (if t128 = true then ((crc_Sum.f a0).bind fun t129 => ((carillonref02_Sum.f k a0).bind fun t130 => (if t129 = t130 then ((crc_More.f a1 a0).bind fun t131 => ((carillonref02_More.f k a1 a0).bind fun t132 => (some (t131 == t132)))) else (some false)))) else (some false)) = some r := H
  have A3 := Aside0.mk A30
  clear A30
  by_cases c4 : t128 = true
  · subst c4
    have H1 : ((crc_Sum.f a0).bind fun t129 => ((carillonref02_Sum.f k a0).bind fun t130 => (if t129 = t130 then ((crc_More.f a1 a0).bind fun t131 => ((carillonref02_More.f k a1 a0).bind fun t132 => (some (t131 == t132)))) else (some false)))) = some r := by rw [if_pos rfl] at H; exact H
    clear H
    have H := H1
    clear H1
    replace H := Option.bind_eq_some_iff.mp H
    obtain ⟨t129, A50, H⟩ := H
    replace H : ((carillonref02_Sum.f k a0).bind fun t130 => (if t129 = t130 then ((crc_More.f a1 a0).bind fun t131 => ((carillonref02_More.f k a1 a0).bind fun t132 => (some (t131 == t132)))) else (some false))) = some r := H
    have A5 := Aside0.mk A50
    clear A50
    replace H := Option.bind_eq_some_iff.mp H
    obtain ⟨t130, A60, H⟩ := H
    replace H : (if t129 = t130 then ((crc_More.f a1 a0).bind fun t131 => ((carillonref02_More.f k a1 a0).bind fun t132 => (some (t131 == t132)))) else (some false)) = some r := H
    have A6 := Aside0.mk A60
    clear A60
    by_cases c7 : t129 = t130
    · rw [if_pos c7] at H
      have c7b0 : (t129 == t130) = true := beq_iff_eq.mpr c7
      have c7b1 : (t129 != t130) = false := bne_eq_false_iff_eq.mpr c7
      clear c7
      replace H := Option.bind_eq_some_iff.mp H
      obtain ⟨t131, A80, H⟩ := H
      replace H : ((carillonref02_More.f k a1 a0).bind fun t132 => (some (t131 == t132))) = some r := H
      have A8 := Aside0.mk A80
      clear A80
      replace H := Option.bind_eq_some_iff.mp H
      obtain ⟨t132, A90, H⟩ := H
      replace H : (some (t131 == t132)) = some r := H
      have A9 := Aside0.mk A90
      clear A90
      obtain rfl := Option.some.inj H
      go_enter Tryd.func3, Tryd.ntmps3
      go_wp2_with (first | ((with_reducible refine gate_callee (f := 12) rfl ?_); refine goesL_ (some 6) rfl rfl Tryd.func12 (by kernel_rfl) rfl #[] rfl am ?_; (with_reducible refine (carillonlaw02_examples.calls  true _ tbk A3.out).mono ?_); rintro e w10 ⟨rfl, hb⟩; refine ⟨_, rfl, ?_⟩; have n0_ := Aside0.mk (below_step bw hb); clear HB; have HB := n0_; clear n0_; (try clear hb); (try clear hb2); (try clear hk); (try clear hi)) | (go_at_call 13; (with_reducible refine (crc_Sum.calls a0 t129 _ tbk A5.out).mono ?_); rintro e w11 ⟨rfl, hb⟩; have n0_ := Aside0.mk (below_step bw hb); clear HB; have HB := n0_; clear n0_; (try clear hb); (try clear hb2); (try clear hk); (try clear hi)) | (go_at_call 14; (with_reducible refine (carillonref02_Sum.calls k a0 t130 _ A6.out).mono ?_); rintro e w' ⟨rfl, ⟨nd, rfl⟩⟩) | (go_at_call 15; (with_reducible refine (crc_More.calls a1 a0 t131 _ tbk A8.out).mono ?_); rintro e w12 ⟨rfl, hb⟩; have n0_ := Aside0.mk (below_step bw hb); clear HB; have HB := n0_; clear n0_; (try clear hb); (try clear hb2); (try clear hk); (try clear hi)) | (go_at_call 16; (with_reducible refine (carillonref02_More.calls k a1 a0 t132 _ A9.out).mono ?_); rintro e w' ⟨rfl, ⟨nd, rfl⟩⟩))
      go_ret
      exact ⟨er, bw⟩
    · rw [if_neg c7] at H
      have c7b0 : (t129 == t130) = false := beq_eq_false_iff_ne.mpr c7
      have c7b1 : (t129 != t130) = true := bne_iff_ne.mpr c7
      exact absurd ((Option.some.inj H).trans hr_.out) (by decide)
  · replace c4 := Bool.eq_false_iff.mpr c4
    subst c4
    have H1 : (some false) = some r := by rw [if_neg (show ¬ (false = true) by decide)] at H; exact H
    clear H
    have H := H1
    clear H1
    exact absurd ((Option.some.inj H).trans hr_.out) (by decide)

/-! ### carillonref02_word: function 25 -/
def carillonref02_word.f (a0 : Int) : Option (ByteArray) := some (strOfNums (([(a0 / 16777216) % 256, (a0 / 65536) % 256, (a0 / 256) % 256, (a0) % 256] : List Int)))
set_option maxHeartbeats 8000000 in
set_option maxRecDepth 100000 in
theorem carillonref02_word.calls (a0 : Int) (r : ByteArray) (w : World) (h : carillonref02_word.f a0 = some r) :
    Calls Tryd.prog 25 #[.int .u32 a0] w fun e w' => e = .returned (.string r) ∧ Below w.heap.size w w' := by
  have HB := Aside0.mk (Below.refl w.heap.size w)
  have H : (some (strOfNums (([(a0 / 16777216) % 256, (a0 / 65536) % 256, (a0 / 256) % 256, (a0) % 256] : List Int)))) = some r := h
  clear h
  obtain ⟨y133, hy133⟩ : ∃ y_ : List Int, y_ = (([(a0 / 16777216) % 256, (a0 / 65536) % 256, (a0 / 256) % 256, (a0) % 256] : List Int)) := ⟨_, rfl⟩
  replace H : (some (strOfNums y133)) = some r := by first | (rw [hy133]; with_reducible exact H) | (have H2_ := (Option.bind_some _ _).symm.trans H; rw [hy133]; with_reducible exact H2_) | (have H2_ := (Option.bind_some _ _).symm.trans H; with_reducible exact H2_) | with_reducible exact H | (rw [hy133]; exact H) | exact H
  have Ny133 := Aside0.mk hy133
  clear hy133
  obtain rfl := Option.some.inj H
  go_enter Tryd.func25, Tryd.ntmps25
  go_wp2_with (first | ((with_reducible refine gate_dst (N := 14) rfl ?_); refine Kd.R_lit (Kd.int .u8) _ 5 ?hg (N := 14) ?hd (xs := ([(a0 / 16777216) % 256, (a0 / 65536) % 256, (a0 / 256) % 256, (a0) % 256] : List Int)) (inner := [.int .u8 ((a0 / 16777216) % 256), .int .u8 ((a0 / 65536) % 256), .int .u8 ((a0 / 256) % 256), .int .u8 ((a0) % 256)]) (ok := fun _ => True) (okp := fun _ => True) ?hr ?hp (fun _ hk => hk) trivial (Below.refl _ _) (Nat.le_refl _) (by simp) ?_; (case hd => rfl); (case hg => rfl); (case hr => first | (go_simp; done) | (go_simp; rfl)); (case hp => exact (Reps.one (show Kd.M (Kd.int .u8) _ _ _ ((a0 / 16777216) % 256) [.int .u8 ((a0 / 16777216) % 256)] from rfl) (Reps.one (show Kd.M (Kd.int .u8) _ _ _ ((a0 / 65536) % 256) [.int .u8 ((a0 / 65536) % 256)] from rfl) (Reps.one (show Kd.M (Kd.int .u8) _ _ _ ((a0 / 256) % 256) [.int .u8 ((a0 / 256) % 256)] from rfl) (Reps.one (show Kd.M (Kd.int .u8) _ _ _ ((a0) % 256) [.int .u8 ((a0) % 256)] from rfl) (Reps.none _ _)))))); intro v134 w2 ho3 hb hg_ hnew_; clear hg_ hnew_; (first | rw [← Ny133.out] at ho3 | (simp only [Int.reduceToNat] at ho3; rw [← Ny133.out] at ho3)); have n0_ := Aside0.mk (Kd.R_lower ho3 (below_size bw)); have n1_ := Aside0.mk (below_step bw hb); clear HB; have HO135 := n0_; have HB := n1_; clear n0_ n1_; clear hb ho3; have hcv4 := own_string (P := Tryd.prog) Tryd.underlying47 Tryd.underlying5 Tryd.underlying9 (Kd.own_of_R HO135.out)))
  go_ret
  exact ⟨er, bw⟩

/-! ### carillonref02_Frame: function 18 -/
def carillonref02_Frame.f (k : Nat) (a0 : ByteArray) : Option (ByteArray × Bool) := if (a0.size : Int) > 400000 then (some ((⟨#[]⟩ : ByteArray), false)) else ((carillonref02_word.f (((a0.size : Int)) % 4294967296)).bind fun t136 => (if t136.size + a0.size ≤ 9223372036854775807 then ((carillonref02_Sum.f k (t136 ++ a0)).bind fun t137 => ((carillonref02_word.f t137).bind fun t138 => (if t136.size + t138.size ≤ 9223372036854775807 then (if (t136 ++ t138).size + a0.size ≤ 9223372036854775807 then (some ((t136 ++ t138) ++ a0, true)) else (none)) else (none)))) else (none)))
theorem carillonref02_Frame.mono : ∀ a0 k, LeO (carillonref02_Frame.f k a0) (carillonref02_Frame.f (k + 1) a0) := by
  intro a0 k
  unfold carillonref02_Frame.f
  repeat' first
      | (with_reducible exact carillonref02_Sum.mono _ _)
      | (with_reducible exact LeO.refl _)
      | (with_reducible exact LeO.none _)
      | (with_reducible refine LeO.ite ?_ ?_)
      | (with_reducible refine LeO.bind ?_ (fun _ => ?_))
      | exact carillonref02_Sum.mono _ _
      | exact LeO.none _
      | refine LeO.ite ?_ ?_
      | refine LeO.bind ?_ (fun _ => ?_)
set_option maxHeartbeats 8000000 in
set_option maxRecDepth 100000 in
theorem carillonref02_Frame.calls (k : Nat) (a0 : ByteArray) (r1 : ByteArray) (r2 : Bool) (w : World) (h : carillonref02_Frame.f k a0 = some (r1, r2)) :
    Calls Tryd.prog 18 #[.string a0] w fun e w' => e = .returned (.tuple #[.string r1, .bool r2]) ∧ Below w.heap.size w w' := by
  have HB := Aside0.mk (Below.refl w.heap.size w)
  have H : (if (a0.size : Int) > 400000 then (some ((⟨#[]⟩ : ByteArray), false)) else ((carillonref02_word.f (((a0.size : Int)) % 4294967296)).bind fun t136 => (if t136.size + a0.size ≤ 9223372036854775807 then ((carillonref02_Sum.f k (t136 ++ a0)).bind fun t137 => ((carillonref02_word.f t137).bind fun t138 => (if t136.size + t138.size ≤ 9223372036854775807 then (if (t136 ++ t138).size + a0.size ≤ 9223372036854775807 then (some ((t136 ++ t138) ++ a0, true)) else (none)) else (none)))) else (none)))) = some (r1, r2) := h
  clear h
  by_cases c2 : (a0.size : Int) > 400000
  · rw [if_pos c2] at H
    have c2b0 : decide (400000 < (a0.size : Int)) = true := decide_eq_true c2
    have c2b1 : decide (400000 < a0.size) = true := decide_eq_true (by omega)
    clear c2
    simp only [Option.some.injEq, Prod.mk.injEq] at H
    obtain ⟨rfl, rfl⟩ := H
    go_enter Tryd.func18, Tryd.ntmps18
    go_wp2
    go_ret2
    exact ⟨er, bw⟩
  · rw [if_neg c2] at H
    have c2b0 : decide (400000 < (a0.size : Int)) = false := decide_eq_false c2
    have c2b1 : decide (400000 < a0.size) = false := decide_eq_false (by omega)
    clear c2
    replace H := Option.bind_eq_some_iff.mp H
    obtain ⟨t136, A30, H⟩ := H
    replace H : (if t136.size + a0.size ≤ 9223372036854775807 then ((carillonref02_Sum.f k (t136 ++ a0)).bind fun t137 => ((carillonref02_word.f t137).bind fun t138 => (if t136.size + t138.size ≤ 9223372036854775807 then (if (t136 ++ t138).size + a0.size ≤ 9223372036854775807 then (some ((t136 ++ t138) ++ a0, true)) else (none)) else (none)))) else (none)) = some (r1, r2) := H
    have A3 := Aside0.mk A30
    clear A30
    by_cases c4 : t136.size + a0.size ≤ 9223372036854775807
    · rw [if_pos c4] at H
      have c4b0 := eq_true c4
      have c4b1 : decide (t136.size + a0.size ≤ 9223372036854775807) = true := decide_eq_true c4
      try have c4b2 : (9223372036854775807 < t136.size + a0.size) = False := eq_false (Nat.not_lt.2 c4)
      replace H := Option.bind_eq_some_iff.mp H
      obtain ⟨t137, A50, H⟩ := H
      replace H : ((carillonref02_word.f t137).bind fun t138 => (if t136.size + t138.size ≤ 9223372036854775807 then (if (t136 ++ t138).size + a0.size ≤ 9223372036854775807 then (some ((t136 ++ t138) ++ a0, true)) else (none)) else (none))) = some (r1, r2) := H
      have A5 := Aside0.mk A50
      clear A50
      replace H := Option.bind_eq_some_iff.mp H
      obtain ⟨t138, A60, H⟩ := H
      replace H : (if t136.size + t138.size ≤ 9223372036854775807 then (if (t136 ++ t138).size + a0.size ≤ 9223372036854775807 then (some ((t136 ++ t138) ++ a0, true)) else (none)) else (none)) = some (r1, r2) := H
      have A6 := Aside0.mk A60
      clear A60
      by_cases c7 : t136.size + t138.size ≤ 9223372036854775807
      · rw [if_pos c7] at H
        have c7b0 := eq_true c7
        have c7b1 : decide (t136.size + t138.size ≤ 9223372036854775807) = true := decide_eq_true c7
        try have c7b2 : (9223372036854775807 < t136.size + t138.size) = False := eq_false (Nat.not_lt.2 c7)
        by_cases c8 : (t136 ++ t138).size + a0.size ≤ 9223372036854775807
        · rw [if_pos c8] at H
          have c8b0 := eq_true c8
          have c8b1 : decide ((t136 ++ t138).size + a0.size ≤ 9223372036854775807) = true := decide_eq_true c8
          try have c8b2 : (9223372036854775807 < (t136 ++ t138).size + a0.size) = False := eq_false (Nat.not_lt.2 c8)
          simp only [Option.some.injEq, Prod.mk.injEq] at H
          obtain ⟨rfl, rfl⟩ := H
          go_enter Tryd.func18, Tryd.ntmps18
          go_wp2_with (first | ((with_reducible refine gate_callee (f := 25) rfl ?_); refine goesL_ (some 11) rfl rfl Tryd.func25 (by kernel_rfl) rfl #[.int .u32 (((a0.size : Int)) % 4294967296)] rfl am ?_; (with_reducible refine (carillonref02_word.calls (((a0.size : Int)) % 4294967296) t136 _ A3.out).mono ?_); rintro e w9 ⟨rfl, hb⟩; refine ⟨_, rfl, ?_⟩; have n0_ := Aside0.mk (below_step bw hb); clear HB; have HB := n0_; clear n0_; (try clear hb); (try clear hb2); (try clear hk); (try clear hi)) | ((with_reducible refine gate_callee (f := 14) rfl ?_); refine goesL_ (some 16) rfl rfl Tryd.func14 (by kernel_rfl) rfl #[.string (t136 ++ a0)] rfl am ?_; (with_reducible refine (carillonref02_Sum.calls k (t136 ++ a0) t137 _ A5.out).mono ?_); rintro e w' ⟨rfl, ⟨nd, rfl⟩⟩; refine ⟨_, rfl, ?_⟩) | ((with_reducible refine gate_callee (f := 25) rfl ?_); refine goesL_ (some 17) rfl rfl Tryd.func25 (by kernel_rfl) rfl #[.int .u32 t137] rfl am ?_; (with_reducible refine (carillonref02_word.calls t137 t138 _ A6.out).mono ?_); rintro e w10 ⟨rfl, hb⟩; refine ⟨_, rfl, ?_⟩; have n0_ := Aside0.mk (below_step bw hb); clear HB; have HB := n0_; clear n0_; (try clear hb); (try clear hb2); (try clear hk); (try clear hi)))
          go_ret2
          exact ⟨er, bw⟩
        · rw [if_neg c8] at H
          exact absurd H (by simp)
      · rw [if_neg c7] at H
        exact absurd H (by simp)
    · rw [if_neg c4] at H
      exact absurd H (by simp)

/-! ### carillonref02_value: function 27 -/
def carillonref02_value.f (a0 : ByteArray) : Option (Int) := if 0 < (a0.size : Int) then (if 1 < (a0.size : Int) then (if 2 < (a0.size : Int) then (if 3 < (a0.size : Int) then (some (Go.bits .or .u32 (Go.bits .or .u32 (Go.bits .or .u32 ((((bt a0 0) % 4294967296) * 16777216) % 4294967296) ((((bt a0 1) % 4294967296) * 65536) % 4294967296)) ((((bt a0 2) % 4294967296) * 256) % 4294967296)) ((bt a0 3) % 4294967296))) else (none)) else (none)) else (none)) else (none)
set_option maxHeartbeats 8000000 in
set_option maxRecDepth 100000 in
theorem carillonref02_value.calls (a0 : ByteArray) (r : Int) (w : World) (h : carillonref02_value.f a0 = some r) :
    Calls Tryd.prog 27 #[.string a0] w fun e w' => e = .returned (.int .u32 r) ∧ Drawn0 w w' := by
  have H : (if 0 < (a0.size : Int) then (if 1 < (a0.size : Int) then (if 2 < (a0.size : Int) then (if 3 < (a0.size : Int) then (some (Go.bits .or .u32 (Go.bits .or .u32 (Go.bits .or .u32 ((((bt a0 0) % 4294967296) * 16777216) % 4294967296) ((((bt a0 1) % 4294967296) * 65536) % 4294967296)) ((((bt a0 2) % 4294967296) * 256) % 4294967296)) ((bt a0 3) % 4294967296))) else (none)) else (none)) else (none)) else (none)) = some r := h
  clear h
  by_cases c2 : 0 < (a0.size : Int)
  · rw [if_pos c2] at H
    have c2b0 : decide (0 < (a0.size : Int)) = true := decide_eq_true c2
    have c2b1 : decide (0 < a0.size) = true := decide_eq_true (by omega)
    clear c2
    by_cases c4 : 1 < (a0.size : Int)
    · rw [if_pos c4] at H
      have c4b0 : decide (1 < (a0.size : Int)) = true := decide_eq_true c4
      have c4b1 : decide (1 < a0.size) = true := decide_eq_true (by omega)
      clear c4
      by_cases c6 : 2 < (a0.size : Int)
      · rw [if_pos c6] at H
        have c6b0 : decide (2 < (a0.size : Int)) = true := decide_eq_true c6
        have c6b1 : decide (2 < a0.size) = true := decide_eq_true (by omega)
        clear c6
        by_cases c8 : 3 < (a0.size : Int)
        · rw [if_pos c8] at H
          have c8b0 : decide (3 < (a0.size : Int)) = true := decide_eq_true c8
          have c8b1 : decide (3 < a0.size) = true := decide_eq_true (by omega)
          clear c8
          obtain rfl := Option.some.inj H
          have p3 : 0 ≤ (0 : Int) := (by omega)
          have q3 : 0 < a0.size := (by have : (0 : Int) < (a0.size : Int) := of_decide_eq_true (by first | (with_reducible assumption) | assumption); omega)
          have hx3 : ∀ h : 0 < a0.size, ((a0[0]'h).toNat : Int) = bt a0 0 := bt_at a0 0
          clear p3
          have qi3 : (0 < (a0.size : Int)) = True := eq_true (of_decide_eq_true (by first | (with_reducible assumption) | assumption))
          replace q3 := eq_true q3
          have p5 : 0 ≤ (1 : Int) := (by omega)
          have q5 : 1 < a0.size := (by have : (1 : Int) < (a0.size : Int) := of_decide_eq_true (by first | (with_reducible assumption) | assumption); omega)
          have hx5 : ∀ h : 1 < a0.size, ((a0[1]'h).toNat : Int) = bt a0 1 := bt_at a0 1
          clear p5
          have qi5 : (1 < (a0.size : Int)) = True := eq_true (of_decide_eq_true (by first | (with_reducible assumption) | assumption))
          replace q5 := eq_true q5
          have p7 : 0 ≤ (2 : Int) := (by omega)
          have q7 : 2 < a0.size := (by have : (2 : Int) < (a0.size : Int) := of_decide_eq_true (by first | (with_reducible assumption) | assumption); omega)
          have hx7 : ∀ h : 2 < a0.size, ((a0[2]'h).toNat : Int) = bt a0 2 := bt_at a0 2
          clear p7
          have qi7 : (2 < (a0.size : Int)) = True := eq_true (of_decide_eq_true (by first | (with_reducible assumption) | assumption))
          replace q7 := eq_true q7
          have p9 : 0 ≤ (3 : Int) := (by omega)
          have q9 : 3 < a0.size := (by have : (3 : Int) < (a0.size : Int) := of_decide_eq_true (by first | (with_reducible assumption) | assumption); omega)
          have hx9 : ∀ h : 3 < a0.size, ((a0[3]'h).toNat : Int) = bt a0 3 := bt_at a0 3
          clear p9
          have qi9 : (3 < (a0.size : Int)) = True := eq_true (of_decide_eq_true (by first | (with_reducible assumption) | assumption))
          replace q9 := eq_true q9
          go_enter Tryd.func27, Tryd.ntmps27
          go_wp2
          repeat (go_quiet (fail); try go_wp2)
          go_ret
          exact ⟨by first | rfl | (simp; done) | (simp [*]; done), by repeat (first | exact Drawn0.refl _ | apply Drawn0.step)⟩
        · rw [if_neg c8] at H
          exact absurd H (by simp)
      · rw [if_neg c6] at H
        exact absurd H (by simp)
    · rw [if_neg c4] at H
      exact absurd H (by simp)
  · rw [if_neg c2] at H
    exact absurd H (by simp)

/-! ### carillonref02_Take: function 20 -/
def carillonref02_Take.f (k : Nat) (a0 : ByteArray) : Option (ByteArray × Int × Int) := if (a0.size : Int) < 4 then (some ((⟨#[]⟩ : ByteArray), 0, 2)) else (if 0 ≤ 4 then (if 4 ≤ (a0.size : Int) then ((carillonref02_value.f (a0.extract 0 4)).bind fun t139 => (if t139 > 400000 then (some ((⟨#[]⟩ : ByteArray), 0, 3)) else (if (a0.size : Int) < (wrap64 (8 + (wrap64 (t139)))) then (some ((⟨#[]⟩ : ByteArray), 0, 2)) else (if 4 ≤ 8 then (if 8 ≤ (a0.size : Int) then ((carillonref02_value.f (a0.extract 4 8)).bind fun t140 => (if 8 ≤ (wrap64 (8 + (wrap64 (t139)))) then (if (wrap64 (8 + (wrap64 (t139)))) ≤ (a0.size : Int) then (if (a0.extract 0 4).size + (a0.extract 8 ((wrap64 (8 + (wrap64 (t139)))) : Int).toNat).size ≤ 9223372036854775807 then ((carillonref02_Sum.f k ((a0.extract 0 4) ++ (a0.extract 8 ((wrap64 (8 + (wrap64 (t139)))) : Int).toNat))).bind fun t141 => (if t140 = t141 then (some (a0.extract 8 ((wrap64 (8 + (wrap64 (t139)))) : Int).toNat, wrap64 (8 + (wrap64 (t139))), 0)) else (some ((⟨#[]⟩ : ByteArray), 0, 4)))) else (none)) else (none)) else (none))) else (none)) else (none))))) else (none)) else (none))
theorem carillonref02_Take.mono : ∀ a0 k, LeO (carillonref02_Take.f k a0) (carillonref02_Take.f (k + 1) a0) := by
  intro a0 k
  unfold carillonref02_Take.f
  repeat' first
      | (with_reducible exact carillonref02_Sum.mono _ _)
      | (with_reducible exact LeO.refl _)
      | (with_reducible exact LeO.none _)
      | (with_reducible refine LeO.ite ?_ ?_)
      | (with_reducible refine LeO.bind ?_ (fun _ => ?_))
      | exact carillonref02_Sum.mono _ _
      | exact LeO.none _
      | refine LeO.ite ?_ ?_
      | refine LeO.bind ?_ (fun _ => ?_)
set_option maxHeartbeats 8000000 in
set_option maxRecDepth 100000 in
theorem carillonref02_Take.calls (k : Nat) (a0 : ByteArray) (r1 : ByteArray) (r2 : Int) (r3 : Int) (w : World) (h : carillonref02_Take.f k a0 = some (r1, r2, r3)) :
    Calls Tryd.prog 20 #[.string a0] w fun e w' => e = .returned (.tuple #[.string r1, .int .i64 r2, .int .i64 r3]) ∧ Drawn0 w w' := by
  have H : (if (a0.size : Int) < 4 then (some ((⟨#[]⟩ : ByteArray), 0, 2)) else (if 0 ≤ 4 then (if 4 ≤ (a0.size : Int) then ((carillonref02_value.f (a0.extract 0 4)).bind fun t139 => (if t139 > 400000 then (some ((⟨#[]⟩ : ByteArray), 0, 3)) else (if (a0.size : Int) < (wrap64 (8 + (wrap64 (t139)))) then (some ((⟨#[]⟩ : ByteArray), 0, 2)) else (if 4 ≤ 8 then (if 8 ≤ (a0.size : Int) then ((carillonref02_value.f (a0.extract 4 8)).bind fun t140 => (if 8 ≤ (wrap64 (8 + (wrap64 (t139)))) then (if (wrap64 (8 + (wrap64 (t139)))) ≤ (a0.size : Int) then (if (a0.extract 0 4).size + (a0.extract 8 ((wrap64 (8 + (wrap64 (t139)))) : Int).toNat).size ≤ 9223372036854775807 then ((carillonref02_Sum.f k ((a0.extract 0 4) ++ (a0.extract 8 ((wrap64 (8 + (wrap64 (t139)))) : Int).toNat))).bind fun t141 => (if t140 = t141 then (some (a0.extract 8 ((wrap64 (8 + (wrap64 (t139)))) : Int).toNat, wrap64 (8 + (wrap64 (t139))), 0)) else (some ((⟨#[]⟩ : ByteArray), 0, 4)))) else (none)) else (none)) else (none))) else (none)) else (none))))) else (none)) else (none))) = some (r1, r2, r3) := h
  clear h
  by_cases c2 : (a0.size : Int) < 4
  · rw [if_pos c2] at H
    have c2b0 : decide ((a0.size : Int) < 4) = true := decide_eq_true c2
    have c2b1 : decide (a0.size < 4) = true := decide_eq_true (by omega)
    clear c2
    simp only [Option.some.injEq, Prod.mk.injEq] at H
    obtain ⟨rfl, rfl, rfl⟩ := H
    go_enter Tryd.func20, Tryd.ntmps20
    go_wp2
    repeat (go_quiet (fail); try go_wp2)
    go_ret3
    exact ⟨by first | rfl | (simp; done) | (simp [*]; done), by repeat (first | exact Drawn0.refl _ | apply Drawn0.step)⟩
  · rw [if_neg c2] at H
    have c2b0 : decide ((a0.size : Int) < 4) = false := decide_eq_false c2
    have c2b1 : decide (a0.size < 4) = false := decide_eq_false (by omega)
    clear c2
    by_cases c3 : 0 ≤ 4
    · rw [if_pos c3] at H
      have c3b0 := eq_true c3
      have c3b1 : decide (0 ≤ 4) = true := decide_eq_true c3
      clear c3
      by_cases c4 : 4 ≤ (a0.size : Int)
      · rw [if_pos c4] at H
        have c4b0 := eq_true c4
        have c4b1 : decide (4 ≤ (a0.size : Int)) = true := decide_eq_true c4
        clear c4
        replace H := Option.bind_eq_some_iff.mp H
        obtain ⟨t139, A50, H⟩ := H
        replace H : (if t139 > 400000 then (some ((⟨#[]⟩ : ByteArray), 0, 3)) else (if (a0.size : Int) < (wrap64 (8 + (wrap64 (t139)))) then (some ((⟨#[]⟩ : ByteArray), 0, 2)) else (if 4 ≤ 8 then (if 8 ≤ (a0.size : Int) then ((carillonref02_value.f (a0.extract 4 8)).bind fun t140 => (if 8 ≤ (wrap64 (8 + (wrap64 (t139)))) then (if (wrap64 (8 + (wrap64 (t139)))) ≤ (a0.size : Int) then (if (a0.extract 0 4).size + (a0.extract 8 ((wrap64 (8 + (wrap64 (t139)))) : Int).toNat).size ≤ 9223372036854775807 then ((carillonref02_Sum.f k ((a0.extract 0 4) ++ (a0.extract 8 ((wrap64 (8 + (wrap64 (t139)))) : Int).toNat))).bind fun t141 => (if t140 = t141 then (some (a0.extract 8 ((wrap64 (8 + (wrap64 (t139)))) : Int).toNat, wrap64 (8 + (wrap64 (t139))), 0)) else (some ((⟨#[]⟩ : ByteArray), 0, 4)))) else (none)) else (none)) else (none))) else (none)) else (none)))) = some (r1, r2, r3) := H
        have A5 := Aside0.mk A50
        clear A50
        by_cases c6 : t139 > 400000
        · rw [if_pos c6] at H
          have c6b0 : decide (400000 < t139) = true := decide_eq_true c6
          clear c6
          simp only [Option.some.injEq, Prod.mk.injEq] at H
          obtain ⟨rfl, rfl, rfl⟩ := H
          go_enter Tryd.func20, Tryd.ntmps20
          go_wp2_with (first | (go_at_call 27; (with_reducible refine (carillonref02_value.calls (a0.extract 0 4) t139 _ A5.out).mono ?_); rintro e w' ⟨rfl, ⟨nd, rfl⟩⟩; (try first | exact ⟨rfl, _, World.drewN_drewN _ _ _⟩ | exact ⟨rfl, _, Eq.trans (World.drewN_drewN _ _ _) (congrArg (World.drewN _) (Nat.add_assoc _ _ _))⟩)))
          repeat (go_quiet (first | (go_at_call 27; (with_reducible refine (carillonref02_value.calls (a0.extract 0 4) t139 _ A5.out).mono ?_); rintro e w' ⟨rfl, ⟨nd, rfl⟩⟩; (try first | exact ⟨rfl, _, World.drewN_drewN _ _ _⟩ | exact ⟨rfl, _, Eq.trans (World.drewN_drewN _ _ _) (congrArg (World.drewN _) (Nat.add_assoc _ _ _))⟩))); try go_wp2_with (first | (go_at_call 27; (with_reducible refine (carillonref02_value.calls (a0.extract 0 4) t139 _ A5.out).mono ?_); rintro e w' ⟨rfl, ⟨nd, rfl⟩⟩; (try first | exact ⟨rfl, _, World.drewN_drewN _ _ _⟩ | exact ⟨rfl, _, Eq.trans (World.drewN_drewN _ _ _) (congrArg (World.drewN _) (Nat.add_assoc _ _ _))⟩))))
          go_ret3
          exact ⟨by first | rfl | (simp; done) | (simp [*]; done), by repeat (first | exact Drawn0.refl _ | apply Drawn0.step)⟩
        · rw [if_neg c6] at H
          have c6b0 : decide (400000 < t139) = false := decide_eq_false c6
          clear c6
          by_cases c7 : (a0.size : Int) < (wrap64 (8 + (wrap64 (t139))))
          · rw [if_pos c7] at H
            have c7b0 : decide ((a0.size : Int) < (wrap64 (8 + (wrap64 (t139))))) = true := decide_eq_true c7
            clear c7
            simp only [Option.some.injEq, Prod.mk.injEq] at H
            obtain ⟨rfl, rfl, rfl⟩ := H
            go_enter Tryd.func20, Tryd.ntmps20
            go_wp2_with (first | (go_at_call 27; (with_reducible refine (carillonref02_value.calls (a0.extract 0 4) t139 _ A5.out).mono ?_); rintro e w' ⟨rfl, ⟨nd, rfl⟩⟩; (try first | exact ⟨rfl, _, World.drewN_drewN _ _ _⟩ | exact ⟨rfl, _, Eq.trans (World.drewN_drewN _ _ _) (congrArg (World.drewN _) (Nat.add_assoc _ _ _))⟩)))
            repeat (go_quiet (first | (go_at_call 27; (with_reducible refine (carillonref02_value.calls (a0.extract 0 4) t139 _ A5.out).mono ?_); rintro e w' ⟨rfl, ⟨nd, rfl⟩⟩; (try first | exact ⟨rfl, _, World.drewN_drewN _ _ _⟩ | exact ⟨rfl, _, Eq.trans (World.drewN_drewN _ _ _) (congrArg (World.drewN _) (Nat.add_assoc _ _ _))⟩))); try go_wp2_with (first | (go_at_call 27; (with_reducible refine (carillonref02_value.calls (a0.extract 0 4) t139 _ A5.out).mono ?_); rintro e w' ⟨rfl, ⟨nd, rfl⟩⟩; (try first | exact ⟨rfl, _, World.drewN_drewN _ _ _⟩ | exact ⟨rfl, _, Eq.trans (World.drewN_drewN _ _ _) (congrArg (World.drewN _) (Nat.add_assoc _ _ _))⟩))))
            go_ret3
            exact ⟨by first | rfl | (simp; done) | (simp [*]; done), by repeat (first | exact Drawn0.refl _ | apply Drawn0.step)⟩
          · rw [if_neg c7] at H
            have c7b0 : decide ((a0.size : Int) < (wrap64 (8 + (wrap64 (t139))))) = false := decide_eq_false c7
            clear c7
            by_cases c8 : 4 ≤ 8
            · rw [if_pos c8] at H
              have c8b0 := eq_true c8
              have c8b1 : decide (4 ≤ 8) = true := decide_eq_true c8
              clear c8
              by_cases c9 : 8 ≤ (a0.size : Int)
              · rw [if_pos c9] at H
                have c9b0 := eq_true c9
                have c9b1 : decide (8 ≤ (a0.size : Int)) = true := decide_eq_true c9
                clear c9
                replace H := Option.bind_eq_some_iff.mp H
                obtain ⟨t140, A100, H⟩ := H
                replace H : (if 8 ≤ (wrap64 (8 + (wrap64 (t139)))) then (if (wrap64 (8 + (wrap64 (t139)))) ≤ (a0.size : Int) then (if (a0.extract 0 4).size + (a0.extract 8 ((wrap64 (8 + (wrap64 (t139)))) : Int).toNat).size ≤ 9223372036854775807 then ((carillonref02_Sum.f k ((a0.extract 0 4) ++ (a0.extract 8 ((wrap64 (8 + (wrap64 (t139)))) : Int).toNat))).bind fun t141 => (if t140 = t141 then (some (a0.extract 8 ((wrap64 (8 + (wrap64 (t139)))) : Int).toNat, wrap64 (8 + (wrap64 (t139))), 0)) else (some ((⟨#[]⟩ : ByteArray), 0, 4)))) else (none)) else (none)) else (none)) = some (r1, r2, r3) := H
                have A10 := Aside0.mk A100
                clear A100
                have c11b0 := eq_true (of_decide_eq_true (by first | (with_reducible assumption) | assumption) : 0 ≤ 4)
                have c12b0 := eq_true (of_decide_eq_true (by first | (with_reducible assumption) | assumption) : 4 ≤ (a0.size : Int))
                by_cases c13 : 8 ≤ (wrap64 (8 + (wrap64 (t139))))
                · rw [if_pos c13] at H
                  have c13b0 := eq_true c13
                  have c13b1 : decide (8 ≤ (wrap64 (8 + (wrap64 (t139))))) = true := decide_eq_true c13
                  by_cases c14 : (wrap64 (8 + (wrap64 (t139)))) ≤ (a0.size : Int)
                  · rw [if_pos c14] at H
                    have c14b0 := eq_true c14
                    have c14b1 : decide ((wrap64 (8 + (wrap64 (t139)))) ≤ (a0.size : Int)) = true := decide_eq_true c14
                    by_cases c15 : (a0.extract 0 4).size + (a0.extract 8 ((wrap64 (8 + (wrap64 (t139)))) : Int).toNat).size ≤ 9223372036854775807
                    · rw [if_pos c15] at H
                      have c15b0 := eq_true c15
                      have c15b1 : decide ((a0.extract 0 4).size + (a0.extract 8 ((wrap64 (8 + (wrap64 (t139)))) : Int).toNat).size ≤ 9223372036854775807) = true := decide_eq_true c15
                      try have c15b2 : (9223372036854775807 < (a0.extract 0 4).size + (a0.extract 8 ((wrap64 (8 + (wrap64 (t139)))) : Int).toNat).size) = False := eq_false (Nat.not_lt.2 c15)
                      replace H := Option.bind_eq_some_iff.mp H
                      obtain ⟨t141, A160, H⟩ := H
                      replace H : (if t140 = t141 then (some (a0.extract 8 ((wrap64 (8 + (wrap64 (t139)))) : Int).toNat, wrap64 (8 + (wrap64 (t139))), 0)) else (some ((⟨#[]⟩ : ByteArray), 0, 4))) = some (r1, r2, r3) := H
                      have A16 := Aside0.mk A160
                      clear A160
                      by_cases c17 : t140 = t141
                      · rw [if_pos c17] at H
                        have c17b0 : (t140 == t141) = true := beq_iff_eq.mpr c17
                        have c17b1 : (t140 != t141) = false := bne_eq_false_iff_eq.mpr c17
                        clear c17
                        have c18b0 := eq_true (of_decide_eq_true (by first | (with_reducible assumption) | assumption) : 8 ≤ (wrap64 (8 + (wrap64 (t139)))))
                        have c19b0 := eq_true (of_decide_eq_true (by first | (with_reducible assumption) | assumption) : (wrap64 (8 + (wrap64 (t139)))) ≤ (a0.size : Int))
                        simp only [Option.some.injEq, Prod.mk.injEq] at H
                        obtain ⟨rfl, rfl, rfl⟩ := H
                        go_enter Tryd.func20, Tryd.ntmps20
                        go_wp2_with (first | (go_at_call 27; (with_reducible refine (carillonref02_value.calls (a0.extract 0 4) t139 _ A5.out).mono ?_); rintro e w' ⟨rfl, ⟨nd, rfl⟩⟩; (try first | exact ⟨rfl, _, World.drewN_drewN _ _ _⟩ | exact ⟨rfl, _, Eq.trans (World.drewN_drewN _ _ _) (congrArg (World.drewN _) (Nat.add_assoc _ _ _))⟩)) | (go_at_call 27; (with_reducible refine (carillonref02_value.calls (a0.extract 4 8) t140 _ A10.out).mono ?_); rintro e w' ⟨rfl, ⟨nd, rfl⟩⟩; (try first | exact ⟨rfl, _, World.drewN_drewN _ _ _⟩ | exact ⟨rfl, _, Eq.trans (World.drewN_drewN _ _ _) (congrArg (World.drewN _) (Nat.add_assoc _ _ _))⟩)) | (go_at_call 14; (with_reducible refine (carillonref02_Sum.calls k ((a0.extract 0 4) ++ (a0.extract 8 ((wrap64 (8 + (wrap64 (t139)))) : Int).toNat)) t141 _ A16.out).mono ?_); rintro e w' ⟨rfl, ⟨nd, rfl⟩⟩; (try first | exact ⟨rfl, _, World.drewN_drewN _ _ _⟩ | exact ⟨rfl, _, Eq.trans (World.drewN_drewN _ _ _) (congrArg (World.drewN _) (Nat.add_assoc _ _ _))⟩)))
                        repeat (go_quiet (first | (go_at_call 27; (with_reducible refine (carillonref02_value.calls (a0.extract 0 4) t139 _ A5.out).mono ?_); rintro e w' ⟨rfl, ⟨nd, rfl⟩⟩; (try first | exact ⟨rfl, _, World.drewN_drewN _ _ _⟩ | exact ⟨rfl, _, Eq.trans (World.drewN_drewN _ _ _) (congrArg (World.drewN _) (Nat.add_assoc _ _ _))⟩)) | (go_at_call 27; (with_reducible refine (carillonref02_value.calls (a0.extract 4 8) t140 _ A10.out).mono ?_); rintro e w' ⟨rfl, ⟨nd, rfl⟩⟩; (try first | exact ⟨rfl, _, World.drewN_drewN _ _ _⟩ | exact ⟨rfl, _, Eq.trans (World.drewN_drewN _ _ _) (congrArg (World.drewN _) (Nat.add_assoc _ _ _))⟩)) | (go_at_call 14; (with_reducible refine (carillonref02_Sum.calls k ((a0.extract 0 4) ++ (a0.extract 8 ((wrap64 (8 + (wrap64 (t139)))) : Int).toNat)) t141 _ A16.out).mono ?_); rintro e w' ⟨rfl, ⟨nd, rfl⟩⟩; (try first | exact ⟨rfl, _, World.drewN_drewN _ _ _⟩ | exact ⟨rfl, _, Eq.trans (World.drewN_drewN _ _ _) (congrArg (World.drewN _) (Nat.add_assoc _ _ _))⟩))); try go_wp2_with (first | (go_at_call 27; (with_reducible refine (carillonref02_value.calls (a0.extract 0 4) t139 _ A5.out).mono ?_); rintro e w' ⟨rfl, ⟨nd, rfl⟩⟩; (try first | exact ⟨rfl, _, World.drewN_drewN _ _ _⟩ | exact ⟨rfl, _, Eq.trans (World.drewN_drewN _ _ _) (congrArg (World.drewN _) (Nat.add_assoc _ _ _))⟩)) | (go_at_call 27; (with_reducible refine (carillonref02_value.calls (a0.extract 4 8) t140 _ A10.out).mono ?_); rintro e w' ⟨rfl, ⟨nd, rfl⟩⟩; (try first | exact ⟨rfl, _, World.drewN_drewN _ _ _⟩ | exact ⟨rfl, _, Eq.trans (World.drewN_drewN _ _ _) (congrArg (World.drewN _) (Nat.add_assoc _ _ _))⟩)) | (go_at_call 14; (with_reducible refine (carillonref02_Sum.calls k ((a0.extract 0 4) ++ (a0.extract 8 ((wrap64 (8 + (wrap64 (t139)))) : Int).toNat)) t141 _ A16.out).mono ?_); rintro e w' ⟨rfl, ⟨nd, rfl⟩⟩; (try first | exact ⟨rfl, _, World.drewN_drewN _ _ _⟩ | exact ⟨rfl, _, Eq.trans (World.drewN_drewN _ _ _) (congrArg (World.drewN _) (Nat.add_assoc _ _ _))⟩))))
                        go_ret3
                        exact ⟨by first | rfl | (simp; done) | (simp [*]; done), by repeat (first | exact Drawn0.refl _ | apply Drawn0.step)⟩
                      · rw [if_neg c17] at H
                        have c17b0 : (t140 == t141) = false := beq_eq_false_iff_ne.mpr c17
                        have c17b1 : (t140 != t141) = true := bne_iff_ne.mpr c17
                        simp only [Option.some.injEq, Prod.mk.injEq] at H
                        obtain ⟨rfl, rfl, rfl⟩ := H
                        go_enter Tryd.func20, Tryd.ntmps20
                        go_wp2_with (first | (go_at_call 27; (with_reducible refine (carillonref02_value.calls (a0.extract 0 4) t139 _ A5.out).mono ?_); rintro e w' ⟨rfl, ⟨nd, rfl⟩⟩; (try first | exact ⟨rfl, _, World.drewN_drewN _ _ _⟩ | exact ⟨rfl, _, Eq.trans (World.drewN_drewN _ _ _) (congrArg (World.drewN _) (Nat.add_assoc _ _ _))⟩)) | (go_at_call 27; (with_reducible refine (carillonref02_value.calls (a0.extract 4 8) t140 _ A10.out).mono ?_); rintro e w' ⟨rfl, ⟨nd, rfl⟩⟩; (try first | exact ⟨rfl, _, World.drewN_drewN _ _ _⟩ | exact ⟨rfl, _, Eq.trans (World.drewN_drewN _ _ _) (congrArg (World.drewN _) (Nat.add_assoc _ _ _))⟩)) | (go_at_call 14; (with_reducible refine (carillonref02_Sum.calls k ((a0.extract 0 4) ++ (a0.extract 8 ((wrap64 (8 + (wrap64 (t139)))) : Int).toNat)) t141 _ A16.out).mono ?_); rintro e w' ⟨rfl, ⟨nd, rfl⟩⟩; (try first | exact ⟨rfl, _, World.drewN_drewN _ _ _⟩ | exact ⟨rfl, _, Eq.trans (World.drewN_drewN _ _ _) (congrArg (World.drewN _) (Nat.add_assoc _ _ _))⟩)))
                        repeat (go_quiet (first | (go_at_call 27; (with_reducible refine (carillonref02_value.calls (a0.extract 0 4) t139 _ A5.out).mono ?_); rintro e w' ⟨rfl, ⟨nd, rfl⟩⟩; (try first | exact ⟨rfl, _, World.drewN_drewN _ _ _⟩ | exact ⟨rfl, _, Eq.trans (World.drewN_drewN _ _ _) (congrArg (World.drewN _) (Nat.add_assoc _ _ _))⟩)) | (go_at_call 27; (with_reducible refine (carillonref02_value.calls (a0.extract 4 8) t140 _ A10.out).mono ?_); rintro e w' ⟨rfl, ⟨nd, rfl⟩⟩; (try first | exact ⟨rfl, _, World.drewN_drewN _ _ _⟩ | exact ⟨rfl, _, Eq.trans (World.drewN_drewN _ _ _) (congrArg (World.drewN _) (Nat.add_assoc _ _ _))⟩)) | (go_at_call 14; (with_reducible refine (carillonref02_Sum.calls k ((a0.extract 0 4) ++ (a0.extract 8 ((wrap64 (8 + (wrap64 (t139)))) : Int).toNat)) t141 _ A16.out).mono ?_); rintro e w' ⟨rfl, ⟨nd, rfl⟩⟩; (try first | exact ⟨rfl, _, World.drewN_drewN _ _ _⟩ | exact ⟨rfl, _, Eq.trans (World.drewN_drewN _ _ _) (congrArg (World.drewN _) (Nat.add_assoc _ _ _))⟩))); try go_wp2_with (first | (go_at_call 27; (with_reducible refine (carillonref02_value.calls (a0.extract 0 4) t139 _ A5.out).mono ?_); rintro e w' ⟨rfl, ⟨nd, rfl⟩⟩; (try first | exact ⟨rfl, _, World.drewN_drewN _ _ _⟩ | exact ⟨rfl, _, Eq.trans (World.drewN_drewN _ _ _) (congrArg (World.drewN _) (Nat.add_assoc _ _ _))⟩)) | (go_at_call 27; (with_reducible refine (carillonref02_value.calls (a0.extract 4 8) t140 _ A10.out).mono ?_); rintro e w' ⟨rfl, ⟨nd, rfl⟩⟩; (try first | exact ⟨rfl, _, World.drewN_drewN _ _ _⟩ | exact ⟨rfl, _, Eq.trans (World.drewN_drewN _ _ _) (congrArg (World.drewN _) (Nat.add_assoc _ _ _))⟩)) | (go_at_call 14; (with_reducible refine (carillonref02_Sum.calls k ((a0.extract 0 4) ++ (a0.extract 8 ((wrap64 (8 + (wrap64 (t139)))) : Int).toNat)) t141 _ A16.out).mono ?_); rintro e w' ⟨rfl, ⟨nd, rfl⟩⟩; (try first | exact ⟨rfl, _, World.drewN_drewN _ _ _⟩ | exact ⟨rfl, _, Eq.trans (World.drewN_drewN _ _ _) (congrArg (World.drewN _) (Nat.add_assoc _ _ _))⟩))))
                        go_ret3
                        exact ⟨by first | rfl | (simp; done) | (simp [*]; done), by repeat (first | exact Drawn0.refl _ | apply Drawn0.step)⟩
                    · rw [if_neg c15] at H
                      exact absurd H (by simp)
                  · rw [if_neg c14] at H
                    exact absurd H (by simp)
                · rw [if_neg c13] at H
                  exact absurd H (by simp)
              · rw [if_neg c9] at H
                exact absurd H (by simp)
            · rw [if_neg c8] at H
              exact absurd H (by simp)
      · rw [if_neg c4] at H
        exact absurd H (by simp)
    · rw [if_neg c3] at H
      exact absurd H (by simp)

/-! ### carillonlaw02_CrcFrames: function 4 -/
def carillonlaw02_CrcFrames.f (k : Nat) (a0 : ByteArray) (a1 : ByteArray) : Option (Bool) := (carillonlaw02_examples.f).bind fun t142 => ((crc_Frame.f a0).bind fun bt143 => ((carillonref02_Frame.f k a0).bind fun bt145 => ((crc_Take.f a1).bind fun bt147 => ((carillonref02_Take.f k a1).bind fun bt150 => (if t142 = true then (if bt143.1.toList = bt145.1.toList then (if ((bt143.2 == 0) == bt145.2) = true then (if bt145.2 = true then (if bt147.1.toList = bt150.1.toList then (if bt147.2.1 = bt150.2.1 then (some (bt147.2.2 == bt150.2.2)) else (some false)) else (some false)) else (if bt143.2 = 3 then (if bt147.1.toList = bt150.1.toList then (if bt147.2.1 = bt150.2.1 then (some (bt147.2.2 == bt150.2.2)) else (some false)) else (some false)) else (some false))) else (some false)) else (some false)) else (some false))))))
theorem carillonlaw02_CrcFrames.mono : ∀ a0 a1 k, LeO (carillonlaw02_CrcFrames.f k a0 a1) (carillonlaw02_CrcFrames.f (k + 1) a0 a1) := by
  intro a0 a1 k
  unfold carillonlaw02_CrcFrames.f
  repeat' first
      | (with_reducible exact carillonref02_Frame.mono _ _)
      | (with_reducible exact carillonref02_Take.mono _ _)
      | (with_reducible exact LeO.refl _)
      | (with_reducible exact LeO.none _)
      | (with_reducible refine LeO.ite ?_ ?_)
      | (with_reducible refine LeO.bind ?_ (fun _ => ?_))
      | exact carillonref02_Frame.mono _ _
      | exact carillonref02_Take.mono _ _
      | exact LeO.none _
      | refine LeO.ite ?_ ?_
      | refine LeO.bind ?_ (fun _ => ?_)
set_option maxHeartbeats 8000000 in
set_option maxRecDepth 100000 in
theorem carillonlaw02_CrcFrames.calls (k : Nat) (a0 : ByteArray) (a1 : ByteArray) (r : Bool) (w : World) (hr_ : Aside0 (r = true)) (HT_ : TabOk w) (h : carillonlaw02_CrcFrames.f k a0 a1 = some r) :
    Calls Tryd.prog 4 #[.string a0, .string a1] w fun e w' => e = .returned (.bool r) ∧ Below w.heap.size w w' := by
  have HT := Aside0.mk HT_
  clear HT_
  have HB := Aside0.mk (Below.refl w.heap.size w)
  have H : ((carillonlaw02_examples.f).bind fun t142 => ((crc_Frame.f a0).bind fun bt143 => ((carillonref02_Frame.f k a0).bind fun bt145 => ((crc_Take.f a1).bind fun bt147 => ((carillonref02_Take.f k a1).bind fun bt150 => (if t142 = true then (if bt143.1.toList = bt145.1.toList then (if ((bt143.2 == 0) == bt145.2) = true then (if bt145.2 = true then (if bt147.1.toList = bt150.1.toList then (if bt147.2.1 = bt150.2.1 then (some (bt147.2.2 == bt150.2.2)) else (some false)) else (some false)) else (if bt143.2 = 3 then (if bt147.1.toList = bt150.1.toList then (if bt147.2.1 = bt150.2.1 then (some (bt147.2.2 == bt150.2.2)) else (some false)) else (some false)) else (some false))) else (some false)) else (some false)) else (some false))))))) = some r := h
  clear h
  replace H := Option.bind_eq_some_iff.mp H
  obtain ⟨t142, A30, H⟩ := H
  replace H : ((crc_Frame.f a0).bind fun bt143 => ((carillonref02_Frame.f k a0).bind fun bt145 => ((crc_Take.f a1).bind fun bt147 => ((carillonref02_Take.f k a1).bind fun bt150 => (if t142 = true then (if bt143.1.toList = bt145.1.toList then (if ((bt143.2 == 0) == bt145.2) = true then (if bt145.2 = true then (if bt147.1.toList = bt150.1.toList then (if bt147.2.1 = bt150.2.1 then (some (bt147.2.2 == bt150.2.2)) else (some false)) else (some false)) else (if bt143.2 = 3 then (if bt147.1.toList = bt150.1.toList then (if bt147.2.1 = bt150.2.1 then (some (bt147.2.2 == bt150.2.2)) else (some false)) else (some false)) else (some false))) else (some false)) else (some false)) else (some false)))))) = some r := H
  have A3 := Aside0.mk A30
  clear A30
  replace H := Option.bind_eq_some_iff.mp H
  obtain ⟨⟨t143, t144⟩, A40, H⟩ := H
  replace H : ((carillonref02_Frame.f k a0).bind fun bt145 => ((crc_Take.f a1).bind fun bt147 => ((carillonref02_Take.f k a1).bind fun bt150 => (if t142 = true then (if t143.toList = bt145.1.toList then (if ((t144 == 0) == bt145.2) = true then (if bt145.2 = true then (if bt147.1.toList = bt150.1.toList then (if bt147.2.1 = bt150.2.1 then (some (bt147.2.2 == bt150.2.2)) else (some false)) else (some false)) else (if t144 = 3 then (if bt147.1.toList = bt150.1.toList then (if bt147.2.1 = bt150.2.1 then (some (bt147.2.2 == bt150.2.2)) else (some false)) else (some false)) else (some false))) else (some false)) else (some false)) else (some false))))) = some r := H
  have A4 := Aside0.mk A40
  clear A40
  replace H := Option.bind_eq_some_iff.mp H
  obtain ⟨⟨t145, t146⟩, A50, H⟩ := H
  replace H : ((crc_Take.f a1).bind fun bt147 => ((carillonref02_Take.f k a1).bind fun bt150 => (if t142 = true then (if t143.toList = t145.toList then (if ((t144 == 0) == t146) = true then (if t146 = true then (if bt147.1.toList = bt150.1.toList then (if bt147.2.1 = bt150.2.1 then (some (bt147.2.2 == bt150.2.2)) else (some false)) else (some false)) else (if t144 = 3 then (if bt147.1.toList = bt150.1.toList then (if bt147.2.1 = bt150.2.1 then (some (bt147.2.2 == bt150.2.2)) else (some false)) else (some false)) else (some false))) else (some false)) else (some false)) else (some false)))) = some r := H
  have A5 := Aside0.mk A50
  clear A50
  replace H := Option.bind_eq_some_iff.mp H
  obtain ⟨⟨t147, t148, t149⟩, A60, H⟩ := H
  replace H : ((carillonref02_Take.f k a1).bind fun bt150 => (if t142 = true then (if t143.toList = t145.toList then (if ((t144 == 0) == t146) = true then (if t146 = true then (if t147.toList = bt150.1.toList then (if t148 = bt150.2.1 then (some (t149 == bt150.2.2)) else (some false)) else (some false)) else (if t144 = 3 then (if t147.toList = bt150.1.toList then (if t148 = bt150.2.1 then (some (t149 == bt150.2.2)) else (some false)) else (some false)) else (some false))) else (some false)) else (some false)) else (some false))) = some r := H
  have A6 := Aside0.mk A60
  clear A60
  replace H := Option.bind_eq_some_iff.mp H
  obtain ⟨⟨t150, t151, t152⟩, A70, H⟩ := H
  replace H : (if t142 = true then (if t143.toList = t145.toList then (if ((t144 == 0) == t146) = true then (if t146 = true then (if t147.toList = t150.toList then (if t148 = t151 then (some (t149 == t152)) else (some false)) else (some false)) else (if t144 = 3 then (if t147.toList = t150.toList then (if t148 = t151 then (some (t149 == t152)) else (some false)) else (some false)) else (some false))) else (some false)) else (some false)) else (some false)) = some r := H
  have A7 := Aside0.mk A70
  clear A70
  by_cases c8 : t142 = true
  · subst c8
    have H1 : (if t143.toList = t145.toList then (if ((t144 == 0) == t146) = true then (if t146 = true then (if t147.toList = t150.toList then (if t148 = t151 then (some (t149 == t152)) else (some false)) else (some false)) else (if t144 = 3 then (if t147.toList = t150.toList then (if t148 = t151 then (some (t149 == t152)) else (some false)) else (some false)) else (some false))) else (some false)) else (some false)) = some r := by rw [if_pos rfl] at H; exact H
    clear H
    have H := H1
    clear H1
    by_cases c9 : t143.toList = t145.toList
    · rw [if_pos c9] at H
      have c9b0 : (t143.toList == t145.toList) = true := beq_iff_eq.mpr c9
      have c9b1 : (t143.toList != t145.toList) = false := bne_eq_false_iff_eq.mpr c9
      clear c9
      by_cases c10 : ((t144 == 0) == t146) = true
      · rw [if_pos c10] at H
        have c10b0 : ((t144 == 0) == t146) = true := c10
        (try (have c10b1 : decide ((t144 == 0) = t146) = true := by simpa using c10))
        (try (have c10b2 : ((t144 == 0) == t146) = true := by simpa using c10))
        clear c10
        by_cases c11 : t146 = true
        · subst c11
          have H1 : (if t147.toList = t150.toList then (if t148 = t151 then (some (t149 == t152)) else (some false)) else (some false)) = some r := by rw [if_pos rfl] at H; exact H
          clear H
          have H := H1
          clear H1
          by_cases c12 : t147.toList = t150.toList
          · rw [if_pos c12] at H
            have c12b0 : (t147.toList == t150.toList) = true := beq_iff_eq.mpr c12
            have c12b1 : (t147.toList != t150.toList) = false := bne_eq_false_iff_eq.mpr c12
            clear c12
            by_cases c13 : t148 = t151
            · rw [if_pos c13] at H
              have c13b0 : (t148 == t151) = true := beq_iff_eq.mpr c13
              have c13b1 : (t148 != t151) = false := bne_eq_false_iff_eq.mpr c13
              clear c13
              obtain rfl := Option.some.inj H
              go_enter Tryd.func4, Tryd.ntmps4
              go_wp2_with (first | ((with_reducible refine gate_callee (f := 12) rfl ?_); refine goesL_ (some 16) rfl rfl Tryd.func12 (by kernel_rfl) rfl #[] rfl am ?_; (with_reducible refine (carillonlaw02_examples.calls  true _ tbk A3.out).mono ?_); rintro e w14 ⟨rfl, hb⟩; refine ⟨_, rfl, ?_⟩; have n0_ := Aside0.mk (below_step bw hb); clear HB; have HB := n0_; clear n0_; (try clear hb); (try clear hb2); (try clear hk); (try clear hi)) | ((with_reducible refine gate_callee (f := 17) rfl ?_); refine goesL_ (some 19) rfl rfl Tryd.func17 (by kernel_rfl) rfl #[.string a0] rfl am ?_; (with_reducible refine (crc_Frame.calls a0 t143 t144 _ tbk A4.out).mono ?_); rintro e w15 ⟨rfl, hb⟩; refine ⟨_, rfl, ?_⟩; have n0_ := Aside0.mk (below_step bw hb); clear HB; have HB := n0_; clear n0_; (try clear hb); (try clear hb2); (try clear hk); (try clear hi)) | ((with_reducible refine gate_callee (f := 18) rfl ?_); refine goesL_ (some 24) rfl rfl Tryd.func18 (by kernel_rfl) rfl #[.string a0] rfl am ?_; (with_reducible refine (carillonref02_Frame.calls k a0 t145 true _ A5.out).mono ?_); rintro e w16 ⟨rfl, hb⟩; refine ⟨_, rfl, ?_⟩; have n0_ := Aside0.mk (below_step bw hb); clear HB; have HB := n0_; clear n0_; (try clear hb); (try clear hb2); (try clear hk); (try clear hi)) | ((with_reducible refine gate_callee (f := 19) rfl ?_); refine goesL_ (some 29) rfl rfl Tryd.func19 (by kernel_rfl) rfl #[.string a1] rfl am ?_; (with_reducible refine (crc_Take.calls a1 t147 t148 t149 _ tbk A6.out).mono ?_); rintro e w17 ⟨rfl, hb⟩; refine ⟨_, rfl, ?_⟩; have n0_ := Aside0.mk (below_step bw hb); clear HB; have HB := n0_; clear n0_; (try clear hb); (try clear hb2); (try clear hk); (try clear hi)) | ((with_reducible refine gate_callee (f := 20) rfl ?_); refine goesL_ (some 35) rfl rfl Tryd.func20 (by kernel_rfl) rfl #[.string a1] rfl am ?_; (with_reducible refine (carillonref02_Take.calls k a1 t150 t151 t152 _ A7.out).mono ?_); rintro e w' ⟨rfl, ⟨nd, rfl⟩⟩; refine ⟨_, rfl, ?_⟩))
              go_ret
              exact ⟨er, bw⟩
            · rw [if_neg c13] at H
              have c13b0 : (t148 == t151) = false := beq_eq_false_iff_ne.mpr c13
              have c13b1 : (t148 != t151) = true := bne_iff_ne.mpr c13
              exact absurd ((Option.some.inj H).trans hr_.out) (by decide)
          · rw [if_neg c12] at H
            have c12b0 : (t147.toList == t150.toList) = false := beq_eq_false_iff_ne.mpr c12
            have c12b1 : (t147.toList != t150.toList) = true := bne_iff_ne.mpr c12
            exact absurd ((Option.some.inj H).trans hr_.out) (by decide)
        · replace c11 := Bool.eq_false_iff.mpr c11
          subst c11
          have H1 : (if t144 = 3 then (if t147.toList = t150.toList then (if t148 = t151 then (some (t149 == t152)) else (some false)) else (some false)) else (some false)) = some r := by rw [if_neg (show ¬ (false = true) by decide)] at H; exact H
          clear H
          have H := H1
          clear H1
          by_cases c18 : t144 = 3
          · rw [if_pos c18] at H
            have c18b0 : (t144 == 3) = true := beq_iff_eq.mpr c18
            have c18b1 : (t144 != 3) = false := bne_eq_false_iff_eq.mpr c18
            clear c18
            by_cases c19 : t147.toList = t150.toList
            · rw [if_pos c19] at H
              have c19b0 : (t147.toList == t150.toList) = true := beq_iff_eq.mpr c19
              have c19b1 : (t147.toList != t150.toList) = false := bne_eq_false_iff_eq.mpr c19
              clear c19
              by_cases c20 : t148 = t151
              · rw [if_pos c20] at H
                have c20b0 : (t148 == t151) = true := beq_iff_eq.mpr c20
                have c20b1 : (t148 != t151) = false := bne_eq_false_iff_eq.mpr c20
                clear c20
                obtain rfl := Option.some.inj H
                go_enter Tryd.func4, Tryd.ntmps4
                go_wp2_with (first | ((with_reducible refine gate_callee (f := 12) rfl ?_); refine goesL_ (some 16) rfl rfl Tryd.func12 (by kernel_rfl) rfl #[] rfl am ?_; (with_reducible refine (carillonlaw02_examples.calls  true _ tbk A3.out).mono ?_); rintro e w21 ⟨rfl, hb⟩; refine ⟨_, rfl, ?_⟩; have n0_ := Aside0.mk (below_step bw hb); clear HB; have HB := n0_; clear n0_; (try clear hb); (try clear hb2); (try clear hk); (try clear hi)) | ((with_reducible refine gate_callee (f := 17) rfl ?_); refine goesL_ (some 19) rfl rfl Tryd.func17 (by kernel_rfl) rfl #[.string a0] rfl am ?_; (with_reducible refine (crc_Frame.calls a0 t143 t144 _ tbk A4.out).mono ?_); rintro e w22 ⟨rfl, hb⟩; refine ⟨_, rfl, ?_⟩; have n0_ := Aside0.mk (below_step bw hb); clear HB; have HB := n0_; clear n0_; (try clear hb); (try clear hb2); (try clear hk); (try clear hi)) | ((with_reducible refine gate_callee (f := 18) rfl ?_); refine goesL_ (some 24) rfl rfl Tryd.func18 (by kernel_rfl) rfl #[.string a0] rfl am ?_; (with_reducible refine (carillonref02_Frame.calls k a0 t145 false _ A5.out).mono ?_); rintro e w23 ⟨rfl, hb⟩; refine ⟨_, rfl, ?_⟩; have n0_ := Aside0.mk (below_step bw hb); clear HB; have HB := n0_; clear n0_; (try clear hb); (try clear hb2); (try clear hk); (try clear hi)) | ((with_reducible refine gate_callee (f := 19) rfl ?_); refine goesL_ (some 29) rfl rfl Tryd.func19 (by kernel_rfl) rfl #[.string a1] rfl am ?_; (with_reducible refine (crc_Take.calls a1 t147 t148 t149 _ tbk A6.out).mono ?_); rintro e w24 ⟨rfl, hb⟩; refine ⟨_, rfl, ?_⟩; have n0_ := Aside0.mk (below_step bw hb); clear HB; have HB := n0_; clear n0_; (try clear hb); (try clear hb2); (try clear hk); (try clear hi)) | ((with_reducible refine gate_callee (f := 20) rfl ?_); refine goesL_ (some 35) rfl rfl Tryd.func20 (by kernel_rfl) rfl #[.string a1] rfl am ?_; (with_reducible refine (carillonref02_Take.calls k a1 t150 t151 t152 _ A7.out).mono ?_); rintro e w' ⟨rfl, ⟨nd, rfl⟩⟩; refine ⟨_, rfl, ?_⟩))
                go_ret
                exact ⟨er, bw⟩
              · rw [if_neg c20] at H
                have c20b0 : (t148 == t151) = false := beq_eq_false_iff_ne.mpr c20
                have c20b1 : (t148 != t151) = true := bne_iff_ne.mpr c20
                exact absurd ((Option.some.inj H).trans hr_.out) (by decide)
            · rw [if_neg c19] at H
              have c19b0 : (t147.toList == t150.toList) = false := beq_eq_false_iff_ne.mpr c19
              have c19b1 : (t147.toList != t150.toList) = true := bne_iff_ne.mpr c19
              exact absurd ((Option.some.inj H).trans hr_.out) (by decide)
          · rw [if_neg c18] at H
            have c18b0 : (t144 == 3) = false := beq_eq_false_iff_ne.mpr c18
            have c18b1 : (t144 != 3) = true := bne_iff_ne.mpr c18
            exact absurd ((Option.some.inj H).trans hr_.out) (by decide)
      · rw [if_neg c10] at H
        have c10b0 : ((t144 == 0) == t146) = false := by simpa using c10
        (try (have c10b1 : decide ((t144 == 0) = t146) = false := by simpa using c10))
        (try (have c10b2 : ((t144 == 0) == t146) = false := by simpa using c10))
        (try (have c10b3 : ¬ ((t144 == 0) = t146) := by simpa using c10))
        clear c10
        exact absurd ((Option.some.inj H).trans hr_.out) (by decide)
    · rw [if_neg c9] at H
      have c9b0 : (t143.toList == t145.toList) = false := beq_eq_false_iff_ne.mpr c9
      have c9b1 : (t143.toList != t145.toList) = true := bne_iff_ne.mpr c9
      exact absurd ((Option.some.inj H).trans hr_.out) (by decide)
  · replace c8 := Bool.eq_false_iff.mpr c8
    subst c8
    have H1 : (some false) = some r := by rw [if_neg (show ¬ (false = true) by decide)] at H; exact H
    clear H
    have H := H1
    clear H1
    exact absurd ((Option.some.inj H).trans hr_.out) (by decide)

/-! ### carillonref02_All: function 21 -/
def carillonref02_All.l0 : Nat → ByteArray → List ByteArray → Int → Option (List ByteArray × Int × Int)
  | 0, _, _, _ => none
  | k + 1, x0, x5, x6 => if x6 < (x0.size : Int) then (if 0 ≤ x6 then (if x6 ≤ (x0.size : Int) then ((carillonref02_Take.f k (x0.extract (x6 : Int).toNat x0.size)).bind fun bt153 => (if bt153.2.2 = 0 then (if x5.length < 8796093022208 then (carillonref02_All.l0 k x0 (x5 ++ [bt153.1]) (wrap64 (x6 + bt153.2.1))) else (none)) else (some (x5, x6, bt153.2.2)))) else (none)) else (none)) else (some (x5, x6, 0))
def carillonref02_All.f (k : Nat) (a0 : ByteArray) : Option (List ByteArray × Int × Int) := carillonref02_All.l0 k a0 ([] : List ByteArray) 0
theorem carillonref02_All.mono_l : ∀ k, (∀ y0 y1 y2, LeO (carillonref02_All.l0 k y0 y1 y2) (carillonref02_All.l0 (k + 1) y0 y1 y2))
  | 0 => fun _ _ _ r h => by simp [carillonref02_All.l0] at h
  | k + 1 => by
    have ih0 := carillonref02_All.mono_l k
    · intro y0 y1 y2
      unfold carillonref02_All.l0
      repeat' first
      | (with_reducible exact ih0 _ _ _)
      | (with_reducible exact carillonref02_Take.mono _ _)
      | (with_reducible exact LeO.refl _)
      | (with_reducible exact LeO.none _)
      | (with_reducible refine LeO.ite ?_ ?_)
      | (with_reducible refine LeO.bind ?_ (fun _ => ?_))
      | exact ih0 _ _ _
      | exact carillonref02_Take.mono _ _
      | exact LeO.none _
      | refine LeO.ite ?_ ?_
      | refine LeO.bind ?_ (fun _ => ?_)
theorem carillonref02_All.mono : ∀ a0 k, LeO (carillonref02_All.f k a0) (carillonref02_All.f (k + 1) a0) := by
  intro a0 k
  have ih0 := carillonref02_All.mono_l k
  unfold carillonref02_All.f
  repeat' first
      | (with_reducible exact ih0 _ _ _)
      | (with_reducible exact carillonref02_Take.mono _ _)
      | (with_reducible exact LeO.refl _)
      | (with_reducible exact LeO.none _)
      | (with_reducible refine LeO.ite ?_ ?_)
      | (with_reducible refine LeO.bind ?_ (fun _ => ?_))
      | exact ih0 _ _ _
      | exact carillonref02_Take.mono _ _
      | exact LeO.none _
      | refine LeO.ite ?_ ?_
      | refine LeO.bind ?_ (fun _ => ?_)
set_option maxHeartbeats 8000000 in
set_option maxRecDepth 100000 in
theorem carillonref02_All.calls (k : Nat) (a0 : ByteArray) (r1 : List ByteArray) (r2 : Int) (r3 : Int) (w : World) (h : carillonref02_All.f k a0 = some (r1, r2, r3)) :
    Calls Tryd.prog 21 #[.string a0] w fun e w' => ∃ v0_ : Value, e = .returned (.tuple #[v0_, .int .i64 r2, .int .i64 r3]) ∧ Kd.R Kd.string 9 w' w.heap.size (fun _ => True) v0_ r1 ∧ Below w.heap.size w w' := by
  have HB := Aside0.mk (Below.refl w.heap.size w)
  have H : (carillonref02_All.l0 k a0 ([] : List ByteArray) 0) = some (r1, r2, r3) := h
  clear h
  have H' := Aside0.mk H
  clear H
  go_enter Tryd.func21, Tryd.ntmps21
  go_wp2
  go_loopg [5, 6] k (fun kq v5 v6 w' => ∃ (x5_1 : List ByteArray) (x6_1 : Int), v6 = .int .i64 x6_1 ∧ Aside0 (carillonref02_All.l0 kq a0 x5_1 x6_1 = some (r1, r2, r3)) ∧ Aside0 (kq ≤ k) ∧ Aside0 (Kd.R Kd.string 9 w' w.heap.size (fun _ => True) v5 x5_1) ∧ Aside0 (Below w.heap.size w w'))
  case atStart => exact ⟨(([] : List ByteArray)), (0), (by first | rfl | (simp; done) | (simp [*]; done)), H', ⟨Nat.le_refl _⟩, ⟨by first | exact Kd.R_nil _ _ _ _ _ | exact Kd.N_nil _ _ _ _ _ | exact Kd.V_nil _ _ _ _ _ | exact Kd.Q_nil _ _ _ _ _ | exact Kd.S_nil _ _ _ _ _⟩, ⟨bw⟩⟩
  case round =>
    clear H'
    obtain ⟨x5_1, x6_1, rfl, HA, HK1, HO_5, HB⟩ := hrel
    cases gk with
    | zero => exact absurd HA.out (by simp [carillonref02_All.l0])
    | succ k1 =>
      have H := HA.out
      clear HA
      simp only [carillonref02_All.l0] at H
      by_cases c2 : x6_1 < (a0.size : Int)
      · rw [if_pos c2] at H
        have c2b0 : decide (x6_1 < (a0.size : Int)) = true := decide_eq_true c2
        clear c2
        by_cases c3 : 0 ≤ x6_1
        · rw [if_pos c3] at H
          have c3b0 := eq_true c3
          have c3b1 : decide (0 ≤ x6_1) = true := decide_eq_true c3
          clear c3
          by_cases c4 : x6_1 ≤ (a0.size : Int)
          · rw [if_pos c4] at H
            have c4b0 := eq_true c4
            have c4b1 : decide (x6_1 ≤ (a0.size : Int)) = true := decide_eq_true c4
            clear c4
            replace H := Option.bind_eq_some_iff.mp H
            obtain ⟨⟨t153, t154, t155⟩, A50, H⟩ := H
            replace H : (if t155 = 0 then (if x5_1.length < 8796093022208 then (carillonref02_All.l0 k1 a0 (x5_1 ++ [t153]) (wrap64 (x6_1 + t154))) else (none)) else (some (x5_1, x6_1, t155))) = some (r1, r2, r3) := H
            have A5 := Aside0.mk A50
            clear A50
            by_cases c6 : t155 = 0
            · rw [if_pos c6] at H
              have c6b0 : (t155 == 0) = true := beq_iff_eq.mpr c6
              have c6b1 : (t155 != 0) = false := bne_eq_false_iff_eq.mpr c6
              clear c6
              by_cases c7 : x5_1.length < 8796093022208
              · rw [if_pos c7] at H
                have LMc7 := Aside0.mk c7
                clear c7
                obtain ⟨y156, hy156⟩ : ∃ y_ : List ByteArray, y_ = (x5_1 ++ [t153]) := ⟨_, rfl⟩
                replace H : (carillonref02_All.l0 k1 a0 y156 (wrap64 (x6_1 + t154))) = some (r1, r2, r3) := by first | (rw [hy156]; with_reducible exact H) | (have H2_ := (Option.bind_some _ _).symm.trans H; rw [hy156]; with_reducible exact H2_) | (have H2_ := (Option.bind_some _ _).symm.trans H; with_reducible exact H2_) | with_reducible exact H | (rw [hy156]; exact H) | exact H
                have Ny156 := Aside0.mk hy156
                clear hy156
                have H' := Aside0.mk H
                clear H
                go_wp2_with (first | ((with_reducible refine gate_callee (f := 20) rfl ?_); refine goesL_ (some 18) rfl rfl Tryd.func20 (by kernel_rfl) rfl #[.string (a0.extract (x6_1 : Int).toNat a0.size)] rfl am ?_; (with_reducible refine (carillonref02_Take.calls k1 (a0.extract (x6_1 : Int).toNat a0.size) t153 t154 t155 _ A5.out).mono ?_); rintro e w' ⟨rfl, ⟨nd, rfl⟩⟩; refine ⟨_, rfl, ?_⟩) | ((with_reducible refine gate_builtin (b := .append) (xs := #[.tmp 27, .tmp 29]) rfl ?_); at_builtin; refine Kd.R_append Kd.string (w0 := w) w.heap.size rfl (.tmp 27) (.tmp 29) 37 9 (.string ⟨#[]⟩) 16 rfl Tryd.underlying37 info9 rfl (by decide) (by omega) u5 x5_1 t153 [.string t153] (fun _ => True) (fun _ => False) rfl rfl ?aP (fun _ hk => hk.elim) ?aF ?aO ?aB ?aS ?aL ?_; (case aP => exact rfl); (case aB => exact bw); (case aF => exact (fun _ _ => trivial)); (case aO => exact (by (with_reducible repeat (first | apply Kd.R_alloc | apply Kd.R_drewN | apply Kd.R_drew)); exact HO_5.out)); (case aS => exact (below_size bw)); (case aL => have := LMc7.out; omega); intro v157 w8 ho hb hg hat; rw [← Ny156.out] at ho; have n0_ := Aside0.mk (hb); have n1_ := Aside0.mk (ho); clear HB; clear HO_5; have HB := n0_; have HO158 := n1_; clear n0_ n1_; clear ho hb hg hat))
                go_roundg k1
                case measure => have := HK1.out; omega
                case rel => exact ⟨(y156), (wrap64 (x6_1 + t154)), (by first | rfl | (simp; done) | (simp [*]; done)), H', ⟨by have := HK1.out; omega⟩, ⟨by (with_reducible repeat (first | apply Kd.R_alloc | apply Kd.R_drewN | apply Kd.R_drew)); exact HO158.out⟩, ⟨bw⟩⟩
              · rw [if_neg c7] at H
                exact absurd H (by simp)
            · rw [if_neg c6] at H
              have c6b0 : (t155 == 0) = false := beq_eq_false_iff_ne.mpr c6
              have c6b1 : (t155 != 0) = true := bne_iff_ne.mpr c6
              simp only [Option.some.injEq, Prod.mk.injEq] at H
              obtain ⟨rfl, rfl, rfl⟩ := H
              go_wp2_with (first | ((with_reducible refine gate_callee (f := 20) rfl ?_); refine goesL_ (some 18) rfl rfl Tryd.func20 (by kernel_rfl) rfl #[.string (a0.extract (x6_1 : Int).toNat a0.size)] rfl am ?_; (with_reducible refine (carillonref02_Take.calls k1 (a0.extract (x6_1 : Int).toNat a0.size) t153 t154 t155 _ A5.out).mono ?_); rintro e w' ⟨rfl, ⟨nd, rfl⟩⟩; refine ⟨_, rfl, ?_⟩))
              go_ret3
              exact ⟨_, er, by (with_reducible repeat (first | apply Kd.R_alloc | apply Kd.R_drewN | apply Kd.R_drew)); exact HO_5.out, bw⟩
          · rw [if_neg c4] at H
            exact absurd H (by simp)
        · rw [if_neg c3] at H
          exact absurd H (by simp)
      · rw [if_neg c2] at H
        have c2b0 : decide (x6_1 < (a0.size : Int)) = false := decide_eq_false c2
        clear c2
        simp only [Option.some.injEq, Prod.mk.injEq] at H
        obtain ⟨rfl, rfl, rfl⟩ := H
        go_wp2
        go_ret3
        exact ⟨_, er, by (with_reducible repeat (first | apply Kd.R_alloc | apply Kd.R_drewN | apply Kd.R_drew)); exact HO_5.out, bw⟩

end Go.Proofs.YtkcooehlahifkaaDoor.P
