-- Printed by this session's program wip/xp.py (a turned copy of the kit's printer): functions, their contracts.
import Derived.Test.YtpgiagdpepkooaaDoorPx0
import Derived.Test.YtpgiagdpepkooaaDoorPx1
import Derived.Test.YtpgiagdpepkooaaDoorPx31
import Derived.Test.YtpgiagdpepkooaaDoorPx39
namespace Go.Proofs.YtpgiagdpepkooaaDoor.P
open Go.RowKit Go.Proofs.YtpgiagdpepkooaaDoorW.PrintWords Go.Proofs.YtpgiagdpepkooaaDoorW.PrintLast Go.Proofs.YtpgiagdpepkooaaDoorW.PrintMore
attribute [local go_sem] max2_int min2_int max_two min_two max_three min_three max_four min_four   -- for this text's walks alone
set_option linter.unusedVariables false
set_option linter.unusedSimpArgs false

attribute [local go_sem high] eqA23
/-! ### carillonref02_More: function 79 -/
mutual
def carillonref02_More.l0 : Nat → ByteArray → Int → Int → Option (Int)
 | 0, _, _, _ => none
 | k + 1, x1, x5, x6 => if x6 < (x1.size : Int) then (carillonref02_More.l1 k x1 x5 x6 0) else (some (Go.bits .xor .u32 x5 4294967295))
def carillonref02_More.l1 : Nat → ByteArray → Int → Int → Int → Option (Int)
 | 0, _, _, _, _ => none
 | k + 1, x1, x5, x6, x7 => if x7 < 8 then (if 0 ≤ x6 then (if x6 < (x1.size : Int) then (if 0 ≤ x7 then (if (((shr .u8 (bt x1 x6) x7) % 4294967296) % 2) = (Int.tmod x5 2) then (carillonref02_More.l1 k x1 ((Int.tdiv x5 2) % 4294967296) x6 (wrap64 (x7 + 1))) else (carillonref02_More.l1 k x1 (Go.bits .xor .u32 ((Int.tdiv x5 2) % 4294967296) 2197175160) x6 (wrap64 (x7 + 1)))) else (none)) else (none)) else (none)) else (carillonref02_More.l0 k x1 x5 (wrap64 (x6 + 1)))
end
def carillonref02_More.f (k : Nat) (a0 : Int) (a1 : ByteArray) : Option (Int) := carillonref02_More.l0 k a1 (Go.bits .xor .u32 a0 4294967295) 0
set_option maxHeartbeats 8000000 in
set_option maxRecDepth 100000 in
theorem carillonref02_More.calls (k : Nat) (a0 : Int) (a1 : ByteArray) (r : Int) (w : World) (h : carillonref02_More.f k a0 a1 = some r) :
  Calls Tryd.prog 79 #[.int .u32 a0, .string a1] w fun e w' => e = .returned (.int .u32 r) ∧ Drawn0 w w' := by
 have H : (carillonref02_More.l0 k a1 (Go.bits .xor .u32 a0 4294967295) 0) = some r := h
 clear h
 have H' := Aside0.mk H
 clear H
 go_enter Tryd.func79, Tryd.ntmps79
 go_wp2
 go_loopg [5, 6] k (fun kq v5 v6 w' => ∃ (x5_1 : Int) (x6_1 : Int), v5 = .int .u32 x5_1 ∧ v6 = .int .i64 x6_1 ∧ Aside0 (carillonref02_More.l0 kq a1 x5_1 x6_1 = some r) ∧ Aside0 (kq ≤ k) ∧ Drawn0 w w')
 case atStart => exact ⟨(Go.bits .xor .u32 a0 4294967295), (0), (by first | rfl | (simp; done) | (simp [*]; done)), (by first | rfl | (simp; done) | (simp [*]; done)), H', ⟨Nat.le_refl _⟩, by repeat (first | exact Drawn0.refl _ | apply Drawn0.step)⟩
 case round =>
  clear H'
  try clear p2
  obtain ⟨x5_1, x6_1, rfl, rfl, HA, HK1, ⟨m1, rfl⟩⟩ := hrel
  cases gk with
  | zero => exact absurd HA.out (by simp [carillonref02_More.l0])
  | succ k1 =>
   have H := HA.out
   clear HA
   simp only [carillonref02_More.l0] at H
   by_cases c3 : x6_1 < (a1.size : Int); rotate_left
   ·rw [if_neg c3] at H
    have aa : decide (x6_1 < (a1.size : Int)) = false := decide_eq_false c3
    clear c3
    obtain rfl := Option.some.inj H
    go_wp2
    go_ret
    exact ⟨by first | rfl | (simp; done) | (simp [*]; done), by repeat (first | exact Drawn0.refl _ | apply Drawn0.step)⟩
   rw [if_pos c3] at H
   have aa : decide (x6_1 < (a1.size : Int)) = true := decide_eq_true c3
   clear c3
   have H' := Aside0.mk H
   clear H
   go_wp2
   go_loopg [5, 7] k1 (fun kq v5 v7 w' => ∃ (x5_2 : Int) (x7_2 : Int), v5 = .int .u32 x5_2 ∧ v7 = .int .i64 x7_2 ∧ Aside0 (carillonref02_More.l1 kq a1 x5_2 x6_1 x7_2 = some r) ∧ Aside0 (kq ≤ k1) ∧ Drawn0 w w')
   case atStart => exact ⟨(x5_1), (0), (by first | rfl | (simp; done) | (simp [*]; done)), (by first | rfl | (simp; done) | (simp [*]; done)), H', ⟨Nat.le_refl _⟩, by repeat (first | exact Drawn0.refl _ | apply Drawn0.step)⟩
   case round =>
    clear H'
    try clear p2
    try clear c3
    try clear aa
    try clear p2
    obtain ⟨x5_2, x7_2, rfl, rfl, HA, HK2, ⟨m2, rfl⟩⟩ := hrel
    cases gk with
    | zero => exact absurd HA.out (by simp [carillonref02_More.l1])
    | succ k2 =>
     have H := HA.out
     clear HA
     simp only [carillonref02_More.l1] at H
     by_cases c4 : x7_2 < 8; rotate_left
     ·rw [if_neg c4] at H
      have c4b0 : decide (x7_2 < 8) = false := decide_eq_false c4
      clear c4
      have H' := Aside0.mk H
      clear H
      go_wp2
      go_roundg k2
      case measure => have := HK1.out; have := HK2.out; omega
      case rel => exact ⟨(x5_2), (wrap64 (x6_1 + 1)), (by first | rfl | (simp; done) | (simp [*]; done)), (by first | rfl | (simp; done) | (simp [*]; done)), H', ⟨by have := HK1.out; have := HK2.out; omega⟩, by repeat (first | exact Drawn0.refl _ | apply Drawn0.step)⟩
     rw [if_pos c4] at H
     have c4b0 : decide (x7_2 < 8) = true := decide_eq_true c4
     clear c4
     obtain ⟨c5, H⟩ := its H
     have c5b0 : decide (0 ≤ x6_1) = true := decide_eq_true c5
     clear c5
     obtain ⟨c6, H⟩ := its H
     have c6b0 : decide (x6_1 < (a1.size : Int)) = true := decide_eq_true c6
     clear c6
     obtain ⟨c8, H⟩ := its H
     have c8b0 := eq_true c8
     have c8b1 : decide (0 ≤ x7_2) = true := decide_eq_true c8
     clear c8
     obtain ⟨ji9, hji9⟩ : ∃ j_ : Int, (shr .u8 (bt a1 x6_1) x7_2) = j_ := ⟨_, rfl⟩
     replace H : (if (((ji9) % 4294967296) % 2) = (Int.tmod x5_2 2) then (carillonref02_More.l1 k2 a1 ((Int.tdiv x5_2 2) % 4294967296) x6_1 (wrap64 (x7_2 + 1))) else (carillonref02_More.l1 k2 a1 (Go.bits .xor .u32 ((Int.tdiv x5_2 2) % 4294967296) 2197175160) x6_1 (wrap64 (x7_2 + 1)))) = some r := by first | (rw [hji9] at H; exact H) | (simp only [hji9] at H ⊢; exact H)
     have hji9_ : ((bt a1 x6_1) / 2 ^ min x7_2.toNat 8) = ji9 := hji9
     have hji9z : x7_2 ≤ 8 → ((bt a1 x6_1) / 2 ^ x7_2.toNat) = ji9 := shr_small hji9
     by_cases c10 : (((ji9) % 4294967296) % 2) = (Int.tmod x5_2 2); rotate_left
     ·rw [if_neg c10] at H
      have c10b0 : ((((ji9) % 4294967296) % 2) == (Int.tmod x5_2 2)) = false := beq_eq_false_iff_ne.mpr c10
      have c10b1 : ((((ji9) % 4294967296) % 2) != (Int.tmod x5_2 2)) = true := bne_iff_ne.mpr c10
      have H' := Aside0.mk H
      clear H
      have p7 : 0 ≤ (x6_1 : Int) := od
      have q7 : x6_1 < (a1.size : Int) := od
      have hx7 := bt_at a1 x6_1
      replace p7 := eq_true p7
      replace q7 := eq_true q7
      go_wp2
      go_roundg k2
      case measure => have := HK1.out; have := HK2.out; omega
      case rel => (try rw [hji9]); exact ⟨(Go.bits .xor .u32 ((Int.tdiv x5_2 2) % 4294967296) 2197175160), (wrap64 (x7_2 + 1)), (by first | rfl | (simp; done) | (simp [*]; done)), (by first | rfl | (simp; done) | (simp [*]; done)), H', ⟨by have := HK1.out; have := HK2.out; omega⟩, by repeat (first | exact Drawn0.refl _ | apply Drawn0.step)⟩
     rw [if_pos c10] at H
     have c10b0 : ((((ji9) % 4294967296) % 2) == (Int.tmod x5_2 2)) = true := beq_iff_eq.mpr c10
     have c10b1 : ((((ji9) % 4294967296) % 2) != (Int.tmod x5_2 2)) = false := bne_eq_false_iff_eq.mpr c10
     clear c10
     have H' := Aside0.mk H
     clear H
     have p7 : 0 ≤ (x6_1 : Int) := od
     have q7 : x6_1 < (a1.size : Int) := od
     have hx7 := bt_at a1 x6_1
     replace p7 := eq_true p7
     replace q7 := eq_true q7
     go_wp2
     go_roundg k2
     case measure => have := HK1.out; have := HK2.out; omega
     case rel => (try rw [hji9]); exact ⟨((Int.tdiv x5_2 2) % 4294967296), (wrap64 (x7_2 + 1)), (by first | rfl | (simp; done) | (simp [*]; done)), (by first | rfl | (simp; done) | (simp [*]; done)), H', ⟨by have := HK1.out; have := HK2.out; omega⟩, by repeat (first | exact Drawn0.refl _ | apply Drawn0.step)⟩

/-! ### carillonref02_Sum: function 67 -/
def carillonref02_Sum.f (k : Nat) (a0 : ByteArray) : Option (Int) := (carillonref02_More.f k 0 a0).bind fun t515 => (some t515)
set_option maxHeartbeats 8000000 in
set_option maxRecDepth 100000 in
theorem carillonref02_Sum.calls (k : Nat) (a0 : ByteArray) (r : Int) (w : World) (h : carillonref02_Sum.f k a0 = some r) :
  Calls Tryd.prog 67 #[.string a0] w fun e w' => e = .returned (.int .u32 r) ∧ Drawn0 w w' := by
 have H : ((carillonref02_More.f k 0 a0).bind fun t515 => (some t515)) = some r := h
 clear h
 replace H := Option.bind_eq_some_iff.mp H
 obtain ⟨t515, A20, H⟩ := H
 have A2 := Aside0.mk A20
 clear A20
 obtain rfl := Option.some.inj H
 go_enter Tryd.func67, Tryd.ntmps67
 go_wp2_with (first | ((with_reducible refine gate_callee (f := 79) rfl ?_); refine goesL_ (some 4) rfl rfl Tryd.func79 (by kernel_rfl) rfl #[.int .u32 0, .string a0] rfl am ?_; (with_reducible refine (carillonref02_More.calls k 0 a0 t515 _ A2.out).mono ?_); rintro e w' ⟨rfl, ⟨nd, rfl⟩⟩; refine ⟨_, rfl, ?_⟩))
 go_ret
 exact ⟨by first | rfl | (simp; done) | (simp [*]; done), by repeat (first | exact Drawn0.refl _ | apply Drawn0.step)⟩

/-! ### carillonref02_Frame: function 48 -/
def carillonref02_Frame.f (k : Nat) (a0 : ByteArray) : Option (ByteArray × Bool) := if (a0.size : Int) > 400000 then (some ((⟨#[]⟩ : ByteArray), false)) else ((carillonref02_word.f (((a0.size : Int)) % 4294967296)).bind fun t516 => (if t516.size + a0.size ≤ 9223372036854775807 then ((carillonref02_Sum.f k (t516 ++ a0)).bind fun t517 => ((carillonref02_word.f t517).bind fun t518 => (if t516.size + t518.size ≤ 9223372036854775807 then (if (t516 ++ t518).size + a0.size ≤ 9223372036854775807 then (some ((t516 ++ t518) ++ a0, true)) else (none)) else (none)))) else (none)))
set_option maxHeartbeats 8000000 in
set_option maxRecDepth 100000 in
theorem carillonref02_Frame.calls (k : Nat) (a0 : ByteArray) (r1 : ByteArray) (r2 : Bool) (w : World) (h : carillonref02_Frame.f k a0 = some (r1, r2)) :
  Calls Tryd.prog 48 #[.string a0] w fun e w' => e = .returned (.tuple #[.string r1, .bool r2]) ∧ Below w.heap.size w w' := by
 have HB := Aside0.mk (Below.refl w.heap.size w)
 have H := h
 unfold carillonref02_Frame.f at H
 clear h
 by_cases c2 : (a0.size : Int) > 400000
 ·rw [if_pos c2] at H
  have c2b0 : decide (400000 < (a0.size : Int)) = true := decide_eq_true c2
  have c2b1 : decide (400000 < a0.size) = true := decide_eq_true (by omega)
  clear c2
  simp only [Option.some.injEq, Prod.mk.injEq] at H
  obtain ⟨rfl, rfl⟩ := H
  go_enter Tryd.func48, Tryd.ntmps48
  go_wp2
  go_ret2
  exact ⟨er, bw⟩
 rw [if_neg c2] at H
 have c2b0 : decide (400000 < (a0.size : Int)) = false := decide_eq_false c2
 have c2b1 : decide (400000 < a0.size) = false := decide_eq_false (by omega)
 clear c2
 replace H := Option.bind_eq_some_iff.mp H
 obtain ⟨t516, A30, H⟩ := H
 have A3 := Aside0.mk A30
 clear A30
 obtain ⟨c4, H⟩ := its H
 have c4b0 := eq_true c4
 have c4b1 : decide (t516.size + a0.size ≤ 9223372036854775807) = true := decide_eq_true c4
 try have c4b2 : (9223372036854775807 < t516.size + a0.size) = False := eq_false (Nat.not_lt.2 c4)
 replace H := Option.bind_eq_some_iff.mp H
 obtain ⟨t517, A50, H⟩ := H
 have A5 := Aside0.mk A50
 clear A50
 replace H := Option.bind_eq_some_iff.mp H
 obtain ⟨t518, A60, H⟩ := H
 have A6 := Aside0.mk A60
 clear A60
 obtain ⟨c7, H⟩ := its H
 have c7b0 := eq_true c7
 have c7b1 : decide (t516.size + t518.size ≤ 9223372036854775807) = true := decide_eq_true c7
 try have c7b2 : (9223372036854775807 < t516.size + t518.size) = False := eq_false (Nat.not_lt.2 c7)
 obtain ⟨c8, H⟩ := its H
 have c8b0 := eq_true c8
 have c8b1 : decide ((t516 ++ t518).size + a0.size ≤ 9223372036854775807) = true := decide_eq_true c8
 try have c8b2 : (9223372036854775807 < (t516 ++ t518).size + a0.size) = False := eq_false (Nat.not_lt.2 c8)
 simp only [Option.some.injEq, Prod.mk.injEq] at H
 obtain ⟨rfl, rfl⟩ := H
 go_enter Tryd.func48, Tryd.ntmps48
 go_wp2_with (first | ((with_reducible refine gate_callee (f := 66) rfl ?_); refine goesL_ (some 11) rfl rfl Tryd.func66 (by kernel_rfl) rfl #[.int .u32 (((a0.size : Int)) % 4294967296)] rfl am ?_; (with_reducible refine (carillonref02_word.calls (((a0.size : Int)) % 4294967296) t516 _ A3.out).mono ?_); rintro e w9 ⟨rfl, hb⟩; refine ⟨_, rfl, ?_⟩; replace HB := Aside0.mk (below_step bw hb); (try clear hb)) | ((with_reducible refine gate_callee (f := 67) rfl ?_); refine goesL_ (some 16) rfl rfl Tryd.func67 (by kernel_rfl) rfl #[.string (t516 ++ a0)] rfl am ?_; (with_reducible refine (carillonref02_Sum.calls k (t516 ++ a0) t517 _ A5.out).mono ?_); rintro e w' ⟨rfl, ⟨nd, rfl⟩⟩; refine ⟨_, rfl, ?_⟩) | ((with_reducible refine gate_callee (f := 66) rfl ?_); refine goesL_ (some 17) rfl rfl Tryd.func66 (by kernel_rfl) rfl #[.int .u32 t517] rfl am ?_; (with_reducible refine (carillonref02_word.calls t517 t518 _ A6.out).mono ?_); rintro e w10 ⟨rfl, hb⟩; refine ⟨_, rfl, ?_⟩; replace HB := Aside0.mk (below_step bw hb); (try clear hb)))
 go_ret2
 exact ⟨er, bw⟩

/-! ### carillonref02_Take: function 50 -/
def carillonref02_Take.f (k : Nat) (a0 : ByteArray) : Option (ByteArray × Int × Int) := if (a0.size : Int) < 4 then (some ((⟨#[]⟩ : ByteArray), 0, 2)) else (if 0 ≤ 4 then (if 4 ≤ (a0.size : Int) then ((carillonref02_value.f (a0.extract 0 4)).bind fun t524 => (if t524 > 400000 then (some ((⟨#[]⟩ : ByteArray), 0, 3)) else (if (a0.size : Int) < (wrap64 (8 + (wrap64 (t524)))) then (some ((⟨#[]⟩ : ByteArray), 0, 2)) else (if 4 ≤ 8 then (if 8 ≤ (a0.size : Int) then ((carillonref02_value.f (a0.extract 4 8)).bind fun t525 => (if 8 ≤ (wrap64 (8 + (wrap64 (t524)))) then (if (wrap64 (8 + (wrap64 (t524)))) ≤ (a0.size : Int) then (if (a0.extract 0 4).size + (a0.extract 8 ((wrap64 (8 + (wrap64 (t524)))) : Int).toNat).size ≤ 9223372036854775807 then ((carillonref02_Sum.f k ((a0.extract 0 4) ++ (a0.extract 8 ((wrap64 (8 + (wrap64 (t524)))) : Int).toNat))).bind fun t526 => (if t525 = t526 then (some (a0.extract 8 ((wrap64 (8 + (wrap64 (t524)))) : Int).toNat, wrap64 (8 + (wrap64 (t524))), 0)) else (some ((⟨#[]⟩ : ByteArray), 0, 4)))) else (none)) else (none)) else (none))) else (none)) else (none))))) else (none)) else (none))
set_option maxHeartbeats 8000000 in
set_option maxRecDepth 100000 in
theorem carillonref02_Take.calls (k : Nat) (a0 : ByteArray) (r1 : ByteArray) (r2 : Int) (r3 : Int) (w : World) (h : carillonref02_Take.f k a0 = some (r1, r2, r3)) :
  Calls Tryd.prog 50 #[.string a0] w fun e w' => e = .returned (.tuple #[.string r1, .int .i64 r2, .int .i64 r3]) ∧ Drawn0 w w' := by
 have H := h
 unfold carillonref02_Take.f at H
 clear h
 by_cases c2 : (a0.size : Int) < 4
 ·rw [if_pos c2] at H
  have c2b0 : decide ((a0.size : Int) < 4) = true := decide_eq_true c2
  have c2b1 : decide (a0.size < 4) = true := decide_eq_true (by omega)
  clear c2
  simp only [Option.some.injEq, Prod.mk.injEq] at H
  obtain ⟨rfl, rfl, rfl⟩ := H
  go_enter Tryd.func50, Tryd.ntmps50
  go_wp2
  go_ret3
  exact ⟨by first | rfl | (simp; done) | (simp [*]; done), by repeat (first | exact Drawn0.refl _ | apply Drawn0.step)⟩
 rw [if_neg c2] at H
 have c2b0 : decide ((a0.size : Int) < 4) = false := decide_eq_false c2
 have c2b1 : decide (a0.size < 4) = false := decide_eq_false (by omega)
 clear c2
 obtain ⟨c3, H⟩ := its H
 have c3b0 := eq_true c3
 have c3b1 : decide (0 ≤ 4) = true := decide_eq_true c3
 clear c3
 obtain ⟨c4, H⟩ := its H
 have c4b0 := eq_true c4
 have c4b1 : decide (4 ≤ (a0.size : Int)) = true := decide_eq_true c4
 clear c4
 replace H := Option.bind_eq_some_iff.mp H
 obtain ⟨t524, A50, H⟩ := H
 have A5 := Aside0.mk A50
 clear A50
 by_cases c6 : t524 > 400000
 ·rw [if_pos c6] at H
  have c6b0 : decide (400000 < t524) = true := decide_eq_true c6
  clear c6
  simp only [Option.some.injEq, Prod.mk.injEq] at H
  obtain ⟨rfl, rfl, rfl⟩ := H
  go_enter Tryd.func50, Tryd.ntmps50
  go_wp2_with (first | (go_at_call 69; (with_reducible refine (carillonref02_value.calls (a0.extract 0 4) t524 _ A5.out).mono ?_); rintro e w' ⟨rfl, ⟨nd, rfl⟩⟩; (try first | exact ⟨rfl, _, World.drewN_drewN _ _ _⟩ | exact ⟨rfl, _, Eq.trans (World.drewN_drewN _ _ _) (congrArg (World.drewN _) (Nat.add_assoc _ _ _))⟩)))
  go_ret3
  exact ⟨by first | rfl | (simp; done) | (simp [*]; done), by repeat (first | exact Drawn0.refl _ | apply Drawn0.step)⟩
 rw [if_neg c6] at H
 have c6b0 : decide (400000 < t524) = false := decide_eq_false c6
 clear c6
 by_cases c7 : (a0.size : Int) < (wrap64 (8 + (wrap64 (t524))))
 ·rw [if_pos c7] at H
  have c7b0 : decide ((a0.size : Int) < (wrap64 (8 + (wrap64 (t524))))) = true := decide_eq_true c7
  clear c7
  simp only [Option.some.injEq, Prod.mk.injEq] at H
  obtain ⟨rfl, rfl, rfl⟩ := H
  go_enter Tryd.func50, Tryd.ntmps50
  go_wp2_with (first | (go_at_call 69; (with_reducible refine (carillonref02_value.calls (a0.extract 0 4) t524 _ A5.out).mono ?_); rintro e w' ⟨rfl, ⟨nd, rfl⟩⟩; (try first | exact ⟨rfl, _, World.drewN_drewN _ _ _⟩ | exact ⟨rfl, _, Eq.trans (World.drewN_drewN _ _ _) (congrArg (World.drewN _) (Nat.add_assoc _ _ _))⟩)))
  go_ret3
  exact ⟨by first | rfl | (simp; done) | (simp [*]; done), by repeat (first | exact Drawn0.refl _ | apply Drawn0.step)⟩
 rw [if_neg c7] at H
 have c7b0 : decide ((a0.size : Int) < (wrap64 (8 + (wrap64 (t524))))) = false := decide_eq_false c7
 clear c7
 obtain ⟨c8, H⟩ := its H
 have c8b0 := eq_true c8
 have c8b1 : decide (4 ≤ 8) = true := decide_eq_true c8
 clear c8
 obtain ⟨c9, H⟩ := its H
 have c9b0 := eq_true c9
 have c9b1 : decide (8 ≤ (a0.size : Int)) = true := decide_eq_true c9
 clear c9
 replace H := Option.bind_eq_some_iff.mp H
 obtain ⟨t525, A100, H⟩ := H
 have A10 := Aside0.mk A100
 clear A100
 have c11b0 := eq_true (od : 0 ≤ 4)
 have c12b0 := eq_true (od : 4 ≤ (a0.size : Int))
 obtain ⟨c13, H⟩ := its H
 have c13b0 := eq_true c13
 have c13b1 : decide (8 ≤ (wrap64 (8 + (wrap64 (t524))))) = true := decide_eq_true c13
 obtain ⟨c14, H⟩ := its H
 have c14b0 := eq_true c14
 have c14b1 : decide ((wrap64 (8 + (wrap64 (t524)))) ≤ (a0.size : Int)) = true := decide_eq_true c14
 obtain ⟨c15, H⟩ := its H
 have c15b0 := eq_true c15
 have c15b1 : decide ((a0.extract 0 4).size + (a0.extract 8 ((wrap64 (8 + (wrap64 (t524)))) : Int).toNat).size ≤ 9223372036854775807) = true := decide_eq_true c15
 try have c15b2 : (9223372036854775807 < (a0.extract 0 4).size + (a0.extract 8 ((wrap64 (8 + (wrap64 (t524)))) : Int).toNat).size) = False := eq_false (Nat.not_lt.2 c15)
 replace H := Option.bind_eq_some_iff.mp H
 obtain ⟨t526, A160, H⟩ := H
 have A16 := Aside0.mk A160
 clear A160
 by_cases c17 : t525 = t526; rotate_left
 ·rw [if_neg c17] at H
  have c17b0 : (t525 == t526) = false := beq_eq_false_iff_ne.mpr c17
  have c17b1 : (t525 != t526) = true := bne_iff_ne.mpr c17
  simp only [Option.some.injEq, Prod.mk.injEq] at H
  obtain ⟨rfl, rfl, rfl⟩ := H
  go_enter Tryd.func50, Tryd.ntmps50
  go_wp2_with (first | (go_at_call 69; (with_reducible refine (carillonref02_value.calls (a0.extract 0 4) t524 _ A5.out).mono ?_); rintro e w' ⟨rfl, ⟨nd, rfl⟩⟩; (try first | exact ⟨rfl, _, World.drewN_drewN _ _ _⟩ | exact ⟨rfl, _, Eq.trans (World.drewN_drewN _ _ _) (congrArg (World.drewN _) (Nat.add_assoc _ _ _))⟩)) | (go_at_call 69; (with_reducible refine (carillonref02_value.calls (a0.extract 4 8) t525 _ A10.out).mono ?_); rintro e w' ⟨rfl, ⟨nd, rfl⟩⟩; (try first | exact ⟨rfl, _, World.drewN_drewN _ _ _⟩ | exact ⟨rfl, _, Eq.trans (World.drewN_drewN _ _ _) (congrArg (World.drewN _) (Nat.add_assoc _ _ _))⟩)) | (go_at_call 67; (with_reducible refine (carillonref02_Sum.calls k ((a0.extract 0 4) ++ (a0.extract 8 ((wrap64 (8 + (wrap64 (t524)))) : Int).toNat)) t526 _ A16.out).mono ?_); rintro e w' ⟨rfl, ⟨nd, rfl⟩⟩; (try first | exact ⟨rfl, _, World.drewN_drewN _ _ _⟩ | exact ⟨rfl, _, Eq.trans (World.drewN_drewN _ _ _) (congrArg (World.drewN _) (Nat.add_assoc _ _ _))⟩)))
  repeat (go_quiet (first | (go_at_call 69; (with_reducible refine (carillonref02_value.calls (a0.extract 0 4) t524 _ A5.out).mono ?_); rintro e w' ⟨rfl, ⟨nd, rfl⟩⟩; (try first | exact ⟨rfl, _, World.drewN_drewN _ _ _⟩ | exact ⟨rfl, _, Eq.trans (World.drewN_drewN _ _ _) (congrArg (World.drewN _) (Nat.add_assoc _ _ _))⟩)) | (go_at_call 69; (with_reducible refine (carillonref02_value.calls (a0.extract 4 8) t525 _ A10.out).mono ?_); rintro e w' ⟨rfl, ⟨nd, rfl⟩⟩; (try first | exact ⟨rfl, _, World.drewN_drewN _ _ _⟩ | exact ⟨rfl, _, Eq.trans (World.drewN_drewN _ _ _) (congrArg (World.drewN _) (Nat.add_assoc _ _ _))⟩)) | (go_at_call 67; (with_reducible refine (carillonref02_Sum.calls k ((a0.extract 0 4) ++ (a0.extract 8 ((wrap64 (8 + (wrap64 (t524)))) : Int).toNat)) t526 _ A16.out).mono ?_); rintro e w' ⟨rfl, ⟨nd, rfl⟩⟩; (try first | exact ⟨rfl, _, World.drewN_drewN _ _ _⟩ | exact ⟨rfl, _, Eq.trans (World.drewN_drewN _ _ _) (congrArg (World.drewN _) (Nat.add_assoc _ _ _))⟩))); try go_wp2_with (first | (go_at_call 69; (with_reducible refine (carillonref02_value.calls (a0.extract 0 4) t524 _ A5.out).mono ?_); rintro e w' ⟨rfl, ⟨nd, rfl⟩⟩; (try first | exact ⟨rfl, _, World.drewN_drewN _ _ _⟩ | exact ⟨rfl, _, Eq.trans (World.drewN_drewN _ _ _) (congrArg (World.drewN _) (Nat.add_assoc _ _ _))⟩)) | (go_at_call 69; (with_reducible refine (carillonref02_value.calls (a0.extract 4 8) t525 _ A10.out).mono ?_); rintro e w' ⟨rfl, ⟨nd, rfl⟩⟩; (try first | exact ⟨rfl, _, World.drewN_drewN _ _ _⟩ | exact ⟨rfl, _, Eq.trans (World.drewN_drewN _ _ _) (congrArg (World.drewN _) (Nat.add_assoc _ _ _))⟩)) | (go_at_call 67; (with_reducible refine (carillonref02_Sum.calls k ((a0.extract 0 4) ++ (a0.extract 8 ((wrap64 (8 + (wrap64 (t524)))) : Int).toNat)) t526 _ A16.out).mono ?_); rintro e w' ⟨rfl, ⟨nd, rfl⟩⟩; (try first | exact ⟨rfl, _, World.drewN_drewN _ _ _⟩ | exact ⟨rfl, _, Eq.trans (World.drewN_drewN _ _ _) (congrArg (World.drewN _) (Nat.add_assoc _ _ _))⟩))))
  go_ret3
  exact ⟨by first | rfl | (simp; done) | (simp [*]; done), by repeat (first | exact Drawn0.refl _ | apply Drawn0.step)⟩
 rw [if_pos c17] at H
 have c17b0 : (t525 == t526) = true := beq_iff_eq.mpr c17
 have c17b1 : (t525 != t526) = false := bne_eq_false_iff_eq.mpr c17
 clear c17
 have c18b0 := eq_true (od : 8 ≤ (wrap64 (8 + (wrap64 (t524)))))
 have c19b0 := eq_true (od : (wrap64 (8 + (wrap64 (t524)))) ≤ (a0.size : Int))
 simp only [Option.some.injEq, Prod.mk.injEq] at H
 obtain ⟨rfl, rfl, rfl⟩ := H
 go_enter Tryd.func50, Tryd.ntmps50
 go_wp2_with (first | (go_at_call 69; (with_reducible refine (carillonref02_value.calls (a0.extract 0 4) t524 _ A5.out).mono ?_); rintro e w' ⟨rfl, ⟨nd, rfl⟩⟩; (try first | exact ⟨rfl, _, World.drewN_drewN _ _ _⟩ | exact ⟨rfl, _, Eq.trans (World.drewN_drewN _ _ _) (congrArg (World.drewN _) (Nat.add_assoc _ _ _))⟩)) | (go_at_call 69; (with_reducible refine (carillonref02_value.calls (a0.extract 4 8) t525 _ A10.out).mono ?_); rintro e w' ⟨rfl, ⟨nd, rfl⟩⟩; (try first | exact ⟨rfl, _, World.drewN_drewN _ _ _⟩ | exact ⟨rfl, _, Eq.trans (World.drewN_drewN _ _ _) (congrArg (World.drewN _) (Nat.add_assoc _ _ _))⟩)) | (go_at_call 67; (with_reducible refine (carillonref02_Sum.calls k ((a0.extract 0 4) ++ (a0.extract 8 ((wrap64 (8 + (wrap64 (t524)))) : Int).toNat)) t526 _ A16.out).mono ?_); rintro e w' ⟨rfl, ⟨nd, rfl⟩⟩; (try first | exact ⟨rfl, _, World.drewN_drewN _ _ _⟩ | exact ⟨rfl, _, Eq.trans (World.drewN_drewN _ _ _) (congrArg (World.drewN _) (Nat.add_assoc _ _ _))⟩)))
 repeat (go_quiet (first | (go_at_call 69; (with_reducible refine (carillonref02_value.calls (a0.extract 0 4) t524 _ A5.out).mono ?_); rintro e w' ⟨rfl, ⟨nd, rfl⟩⟩; (try first | exact ⟨rfl, _, World.drewN_drewN _ _ _⟩ | exact ⟨rfl, _, Eq.trans (World.drewN_drewN _ _ _) (congrArg (World.drewN _) (Nat.add_assoc _ _ _))⟩)) | (go_at_call 69; (with_reducible refine (carillonref02_value.calls (a0.extract 4 8) t525 _ A10.out).mono ?_); rintro e w' ⟨rfl, ⟨nd, rfl⟩⟩; (try first | exact ⟨rfl, _, World.drewN_drewN _ _ _⟩ | exact ⟨rfl, _, Eq.trans (World.drewN_drewN _ _ _) (congrArg (World.drewN _) (Nat.add_assoc _ _ _))⟩)) | (go_at_call 67; (with_reducible refine (carillonref02_Sum.calls k ((a0.extract 0 4) ++ (a0.extract 8 ((wrap64 (8 + (wrap64 (t524)))) : Int).toNat)) t526 _ A16.out).mono ?_); rintro e w' ⟨rfl, ⟨nd, rfl⟩⟩; (try first | exact ⟨rfl, _, World.drewN_drewN _ _ _⟩ | exact ⟨rfl, _, Eq.trans (World.drewN_drewN _ _ _) (congrArg (World.drewN _) (Nat.add_assoc _ _ _))⟩))); try go_wp2_with (first | (go_at_call 69; (with_reducible refine (carillonref02_value.calls (a0.extract 0 4) t524 _ A5.out).mono ?_); rintro e w' ⟨rfl, ⟨nd, rfl⟩⟩; (try first | exact ⟨rfl, _, World.drewN_drewN _ _ _⟩ | exact ⟨rfl, _, Eq.trans (World.drewN_drewN _ _ _) (congrArg (World.drewN _) (Nat.add_assoc _ _ _))⟩)) | (go_at_call 69; (with_reducible refine (carillonref02_value.calls (a0.extract 4 8) t525 _ A10.out).mono ?_); rintro e w' ⟨rfl, ⟨nd, rfl⟩⟩; (try first | exact ⟨rfl, _, World.drewN_drewN _ _ _⟩ | exact ⟨rfl, _, Eq.trans (World.drewN_drewN _ _ _) (congrArg (World.drewN _) (Nat.add_assoc _ _ _))⟩)) | (go_at_call 67; (with_reducible refine (carillonref02_Sum.calls k ((a0.extract 0 4) ++ (a0.extract 8 ((wrap64 (8 + (wrap64 (t524)))) : Int).toNat)) t526 _ A16.out).mono ?_); rintro e w' ⟨rfl, ⟨nd, rfl⟩⟩; (try first | exact ⟨rfl, _, World.drewN_drewN _ _ _⟩ | exact ⟨rfl, _, Eq.trans (World.drewN_drewN _ _ _) (congrArg (World.drewN _) (Nat.add_assoc _ _ _))⟩))))
 go_ret3
 exact ⟨by first | rfl | (simp; done) | (simp [*]; done), by repeat (first | exact Drawn0.refl _ | apply Drawn0.step)⟩

end Go.Proofs.YtpgiagdpepkooaaDoor.P
