-- Printed by this session's program wip/xp.py (a turned copy of the kit's printer): functions, their contracts.
import Derived.Test.YtdpogggajdfedaaDoorPx0
import Derived.Test.YtdpogggajdfedaaDoorPx4
import Derived.Test.YtdpogggajdfedaaDoorPx5
namespace Go.Proofs.YtdpogggajdfedaaDoor.P
open Go.RowKit Go.Proofs.YtdpogggajdfedaaDoorW.PrintWords Go.Proofs.YtdpogggajdfedaaDoorW.PrintLast Go.Proofs.YtdpogggajdfedaaDoorW.PrintMore
attribute [local go_sem] max2_int min2_int max_two min_two max_three min_three max_four min_four   -- for this text's walks alone
set_option linter.unusedVariables false
set_option linter.unusedSimpArgs false

/-! ### carillonref02_value: function 41 -/
def carillonref02_value.f (a0 : ByteArray) : Option (Int) := if 0 < (a0.size : Int) then (if 1 < (a0.size : Int) then (if 2 < (a0.size : Int) then (if 3 < (a0.size : Int) then (some (Go.bits .or .u32 (Go.bits .or .u32 (Go.bits .or .u32 ((((bt a0 0) % 4294967296) * 16777216) % 4294967296) ((((bt a0 1) % 4294967296) * 65536) % 4294967296)) ((((bt a0 2) % 4294967296) * 256) % 4294967296)) ((bt a0 3) % 4294967296))) else (none)) else (none)) else (none)) else (none)
set_option maxHeartbeats 8000000 in
set_option maxRecDepth 100000 in
theorem carillonref02_value.calls (a0 : ByteArray) (r : Int) (w : World) (h : carillonref02_value.f a0 = some r) :
  Calls Tryd.prog 41 #[.string a0] w fun e w' => e = .returned (.int .u32 r) ∧ Drawn0 w w' := by
 have H : (if 0 < (a0.size : Int) then (if 1 < (a0.size : Int) then (if 2 < (a0.size : Int) then (if 3 < (a0.size : Int) then (some (Go.bits .or .u32 (Go.bits .or .u32 (Go.bits .or .u32 ((((bt a0 0) % 4294967296) * 16777216) % 4294967296) ((((bt a0 1) % 4294967296) * 65536) % 4294967296)) ((((bt a0 2) % 4294967296) * 256) % 4294967296)) ((bt a0 3) % 4294967296))) else (none)) else (none)) else (none)) else (none)) = some r := h
 clear h
 by_cases c2 : 0 < (a0.size : Int); rotate_left
 ·rw [if_neg c2] at H
  exact absurd H (by simp)
 rw [if_pos c2] at H
 have c2b0 : decide (0 < (a0.size : Int)) = true := decide_eq_true c2
 have c2b1 : decide (0 < a0.size) = true := decide_eq_true (by omega)
 clear c2
 by_cases c4 : 1 < (a0.size : Int); rotate_left
 ·rw [if_neg c4] at H
  exact absurd H (by simp)
 rw [if_pos c4] at H
 have c4b0 : decide (1 < (a0.size : Int)) = true := decide_eq_true c4
 have c4b1 : decide (1 < a0.size) = true := decide_eq_true (by omega)
 clear c4
 by_cases c6 : 2 < (a0.size : Int); rotate_left
 ·rw [if_neg c6] at H
  exact absurd H (by simp)
 rw [if_pos c6] at H
 have c6b0 : decide (2 < (a0.size : Int)) = true := decide_eq_true c6
 have c6b1 : decide (2 < a0.size) = true := decide_eq_true (by omega)
 clear c6
 by_cases c8 : 3 < (a0.size : Int); rotate_left
 ·rw [if_neg c8] at H
  exact absurd H (by simp)
 rw [if_pos c8] at H
 have c8b0 : decide (3 < (a0.size : Int)) = true := decide_eq_true c8
 have c8b1 : decide (3 < a0.size) = true := decide_eq_true (by omega)
 clear c8
 obtain rfl := Option.some.inj H
 have p3 : 0 ≤ (0 : Int) := (by omega)
 have q3 : 0 < a0.size := (by have : (0 : Int) < (a0.size : Int) := od; omega)
 have hx3 : ∀ h : 0 < a0.size, ((a0[0]'h).toNat : Int) = bt a0 0 := bt_at a0 0
 clear p3
 have qi3 : (0 < (a0.size : Int)) = True := eq_true (od)
 replace q3 := eq_true q3
 have p5 : 0 ≤ (1 : Int) := (by omega)
 have q5 : 1 < a0.size := (by have : (1 : Int) < (a0.size : Int) := od; omega)
 have hx5 : ∀ h : 1 < a0.size, ((a0[1]'h).toNat : Int) = bt a0 1 := bt_at a0 1
 clear p5
 have qi5 : (1 < (a0.size : Int)) = True := eq_true (od)
 replace q5 := eq_true q5
 have p7 : 0 ≤ (2 : Int) := (by omega)
 have q7 : 2 < a0.size := (by have : (2 : Int) < (a0.size : Int) := od; omega)
 have hx7 : ∀ h : 2 < a0.size, ((a0[2]'h).toNat : Int) = bt a0 2 := bt_at a0 2
 clear p7
 have qi7 : (2 < (a0.size : Int)) = True := eq_true (od)
 replace q7 := eq_true q7
 have p9 : 0 ≤ (3 : Int) := (by omega)
 have q9 : 3 < a0.size := (by have : (3 : Int) < (a0.size : Int) := od; omega)
 have hx9 : ∀ h : 3 < a0.size, ((a0[3]'h).toNat : Int) = bt a0 3 := bt_at a0 3
 clear p9
 have qi9 : (3 < (a0.size : Int)) = True := eq_true (od)
 replace q9 := eq_true q9
 go_enter Tryd.func41, Tryd.ntmps41
 go_wp2
 repeat (go_quiet (fail); try go_wp2)
 go_ret
 exact ⟨by first | rfl | (simp; done) | (simp [*]; done), by repeat (first | exact Drawn0.refl _ | apply Drawn0.step)⟩

/-! ### carillonref02_Take: function 23 -/
def carillonref02_Take.f (k : Nat) (a0 : ByteArray) : Option (ByteArray × Int × Int) := if (a0.size : Int) < 4 then (some ((⟨#[]⟩ : ByteArray), 0, 2)) else (if 0 ≤ 4 then (if 4 ≤ (a0.size : Int) then ((carillonref02_value.f (a0.extract 0 4)).bind fun t235 => (if t235 > 400000 then (some ((⟨#[]⟩ : ByteArray), 0, 3)) else (if (a0.size : Int) < (wrap64 (8 + (wrap64 (t235)))) then (some ((⟨#[]⟩ : ByteArray), 0, 2)) else (if 4 ≤ 8 then (if 8 ≤ (a0.size : Int) then ((carillonref02_value.f (a0.extract 4 8)).bind fun t236 => (if 8 ≤ (wrap64 (8 + (wrap64 (t235)))) then (if (wrap64 (8 + (wrap64 (t235)))) ≤ (a0.size : Int) then (if (a0.extract 0 4).size + (a0.extract 8 ((wrap64 (8 + (wrap64 (t235)))) : Int).toNat).size ≤ 9223372036854775807 then ((carillonref02_Sum.f k ((a0.extract 0 4) ++ (a0.extract 8 ((wrap64 (8 + (wrap64 (t235)))) : Int).toNat))).bind fun t237 => (if t236 = t237 then (some (a0.extract 8 ((wrap64 (8 + (wrap64 (t235)))) : Int).toNat, wrap64 (8 + (wrap64 (t235))), 0)) else (some ((⟨#[]⟩ : ByteArray), 0, 4)))) else (none)) else (none)) else (none))) else (none)) else (none))))) else (none)) else (none))
theorem carillonref02_Take.mono : ∀ a0 k, LeO (carillonref02_Take.f k a0) (carillonref02_Take.f (k + 1) a0) := by
 intro a0 k
 unfold carillonref02_Take.f
 repeat' first
   | (with_reducible exact carillonref02_Sum.mono _ _)
   | (with_reducible exact LeO.refl _)
   | (with_reducible exact LeO.none _)
   | (with_reducible refine LeO.ite ?_ ?_)
   | (with_reducible refine LeO.bind ?_ (fun _ => ?_))
   | exact carillonref02_Sum.mono _ _
   | exact LeO.none _
   | refine LeO.ite ?_ ?_
   | refine LeO.bind ?_ (fun _ => ?_)
set_option maxHeartbeats 8000000 in
set_option maxRecDepth 100000 in
theorem carillonref02_Take.calls (k : Nat) (a0 : ByteArray) (r1 : ByteArray) (r2 : Int) (r3 : Int) (w : World) (h : carillonref02_Take.f k a0 = some (r1, r2, r3)) :
  Calls Tryd.prog 23 #[.string a0] w fun e w' => e = .returned (.tuple #[.string r1, .int .i64 r2, .int .i64 r3]) ∧ Drawn0 w w' := by
 have H : (if (a0.size : Int) < 4 then (some ((⟨#[]⟩ : ByteArray), 0, 2)) else (if 0 ≤ 4 then (if 4 ≤ (a0.size : Int) then ((carillonref02_value.f (a0.extract 0 4)).bind fun t235 => (if t235 > 400000 then (some ((⟨#[]⟩ : ByteArray), 0, 3)) else (if (a0.size : Int) < (wrap64 (8 + (wrap64 (t235)))) then (some ((⟨#[]⟩ : ByteArray), 0, 2)) else (if 4 ≤ 8 then (if 8 ≤ (a0.size : Int) then ((carillonref02_value.f (a0.extract 4 8)).bind fun t236 => (if 8 ≤ (wrap64 (8 + (wrap64 (t235)))) then (if (wrap64 (8 + (wrap64 (t235)))) ≤ (a0.size : Int) then (if (a0.extract 0 4).size + (a0.extract 8 ((wrap64 (8 + (wrap64 (t235)))) : Int).toNat).size ≤ 9223372036854775807 then ((carillonref02_Sum.f k ((a0.extract 0 4) ++ (a0.extract 8 ((wrap64 (8 + (wrap64 (t235)))) : Int).toNat))).bind fun t237 => (if t236 = t237 then (some (a0.extract 8 ((wrap64 (8 + (wrap64 (t235)))) : Int).toNat, wrap64 (8 + (wrap64 (t235))), 0)) else (some ((⟨#[]⟩ : ByteArray), 0, 4)))) else (none)) else (none)) else (none))) else (none)) else (none))))) else (none)) else (none))) = some (r1, r2, r3) := h
 clear h
 by_cases c2 : (a0.size : Int) < 4
 ·rw [if_pos c2] at H
  have c2b0 : decide ((a0.size : Int) < 4) = true := decide_eq_true c2
  have c2b1 : decide (a0.size < 4) = true := decide_eq_true (by omega)
  clear c2
  simp only [Option.some.injEq, Prod.mk.injEq] at H
  obtain ⟨rfl, rfl, rfl⟩ := H
  go_enter Tryd.func23, Tryd.ntmps23
  go_wp2
  go_ret3
  exact ⟨by first | rfl | (simp; done) | (simp [*]; done), by repeat (first | exact Drawn0.refl _ | apply Drawn0.step)⟩
 rw [if_neg c2] at H
 have c2b0 : decide ((a0.size : Int) < 4) = false := decide_eq_false c2
 have c2b1 : decide (a0.size < 4) = false := decide_eq_false (by omega)
 clear c2
 by_cases c3 : 0 ≤ 4; rotate_left
 ·rw [if_neg c3] at H
  exact absurd H (by simp)
 rw [if_pos c3] at H
 have c3b0 := eq_true c3
 have c3b1 : decide (0 ≤ 4) = true := decide_eq_true c3
 clear c3
 by_cases c4 : 4 ≤ (a0.size : Int); rotate_left
 ·rw [if_neg c4] at H
  exact absurd H (by simp)
 rw [if_pos c4] at H
 have c4b0 := eq_true c4
 have c4b1 : decide (4 ≤ (a0.size : Int)) = true := decide_eq_true c4
 clear c4
 replace H := Option.bind_eq_some_iff.mp H
 obtain ⟨t235, A50, H⟩ := H
 replace H : (if t235 > 400000 then (some ((⟨#[]⟩ : ByteArray), 0, 3)) else (if (a0.size : Int) < (wrap64 (8 + (wrap64 (t235)))) then (some ((⟨#[]⟩ : ByteArray), 0, 2)) else (if 4 ≤ 8 then (if 8 ≤ (a0.size : Int) then ((carillonref02_value.f (a0.extract 4 8)).bind fun t236 => (if 8 ≤ (wrap64 (8 + (wrap64 (t235)))) then (if (wrap64 (8 + (wrap64 (t235)))) ≤ (a0.size : Int) then (if (a0.extract 0 4).size + (a0.extract 8 ((wrap64 (8 + (wrap64 (t235)))) : Int).toNat).size ≤ 9223372036854775807 then ((carillonref02_Sum.f k ((a0.extract 0 4) ++ (a0.extract 8 ((wrap64 (8 + (wrap64 (t235)))) : Int).toNat))).bind fun t237 => (if t236 = t237 then (some (a0.extract 8 ((wrap64 (8 + (wrap64 (t235)))) : Int).toNat, wrap64 (8 + (wrap64 (t235))), 0)) else (some ((⟨#[]⟩ : ByteArray), 0, 4)))) else (none)) else (none)) else (none))) else (none)) else (none)))) = some (r1, r2, r3) := H
 have A5 := Aside0.mk A50
 clear A50
 by_cases c6 : t235 > 400000
 ·rw [if_pos c6] at H
  have c6b0 : decide (400000 < t235) = true := decide_eq_true c6
  clear c6
  simp only [Option.some.injEq, Prod.mk.injEq] at H
  obtain ⟨rfl, rfl, rfl⟩ := H
  go_enter Tryd.func23, Tryd.ntmps23
  go_wp2_with (first | (go_at_call 41; (with_reducible refine (carillonref02_value.calls (a0.extract 0 4) t235 _ A5.out).mono ?_); rintro e w' ⟨rfl, ⟨nd, rfl⟩⟩; (try first | exact ⟨rfl, _, World.drewN_drewN _ _ _⟩ | exact ⟨rfl, _, Eq.trans (World.drewN_drewN _ _ _) (congrArg (World.drewN _) (Nat.add_assoc _ _ _))⟩)))
  go_ret3
  exact ⟨by first | rfl | (simp; done) | (simp [*]; done), by repeat (first | exact Drawn0.refl _ | apply Drawn0.step)⟩
 rw [if_neg c6] at H
 have c6b0 : decide (400000 < t235) = false := decide_eq_false c6
 clear c6
 by_cases c7 : (a0.size : Int) < (wrap64 (8 + (wrap64 (t235))))
 ·rw [if_pos c7] at H
  have c7b0 : decide ((a0.size : Int) < (wrap64 (8 + (wrap64 (t235))))) = true := decide_eq_true c7
  clear c7
  simp only [Option.some.injEq, Prod.mk.injEq] at H
  obtain ⟨rfl, rfl, rfl⟩ := H
  go_enter Tryd.func23, Tryd.ntmps23
  go_wp2_with (first | (go_at_call 41; (with_reducible refine (carillonref02_value.calls (a0.extract 0 4) t235 _ A5.out).mono ?_); rintro e w' ⟨rfl, ⟨nd, rfl⟩⟩; (try first | exact ⟨rfl, _, World.drewN_drewN _ _ _⟩ | exact ⟨rfl, _, Eq.trans (World.drewN_drewN _ _ _) (congrArg (World.drewN _) (Nat.add_assoc _ _ _))⟩)))
  go_ret3
  exact ⟨by first | rfl | (simp; done) | (simp [*]; done), by repeat (first | exact Drawn0.refl _ | apply Drawn0.step)⟩
 rw [if_neg c7] at H
 have c7b0 : decide ((a0.size : Int) < (wrap64 (8 + (wrap64 (t235))))) = false := decide_eq_false c7
 clear c7
 by_cases c8 : 4 ≤ 8; rotate_left
 ·rw [if_neg c8] at H
  exact absurd H (by simp)
 rw [if_pos c8] at H
 have c8b0 := eq_true c8
 have c8b1 : decide (4 ≤ 8) = true := decide_eq_true c8
 clear c8
 by_cases c9 : 8 ≤ (a0.size : Int); rotate_left
 ·rw [if_neg c9] at H
  exact absurd H (by simp)
 rw [if_pos c9] at H
 have c9b0 := eq_true c9
 have c9b1 : decide (8 ≤ (a0.size : Int)) = true := decide_eq_true c9
 clear c9
 replace H := Option.bind_eq_some_iff.mp H
 obtain ⟨t236, A100, H⟩ := H
 replace H : (if 8 ≤ (wrap64 (8 + (wrap64 (t235)))) then (if (wrap64 (8 + (wrap64 (t235)))) ≤ (a0.size : Int) then (if (a0.extract 0 4).size + (a0.extract 8 ((wrap64 (8 + (wrap64 (t235)))) : Int).toNat).size ≤ 9223372036854775807 then ((carillonref02_Sum.f k ((a0.extract 0 4) ++ (a0.extract 8 ((wrap64 (8 + (wrap64 (t235)))) : Int).toNat))).bind fun t237 => (if t236 = t237 then (some (a0.extract 8 ((wrap64 (8 + (wrap64 (t235)))) : Int).toNat, wrap64 (8 + (wrap64 (t235))), 0)) else (some ((⟨#[]⟩ : ByteArray), 0, 4)))) else (none)) else (none)) else (none)) = some (r1, r2, r3) := H
 have A10 := Aside0.mk A100
 clear A100
 have c11b0 := eq_true (od : 0 ≤ 4)
 have c12b0 := eq_true (od : 4 ≤ (a0.size : Int))
 by_cases c13 : 8 ≤ (wrap64 (8 + (wrap64 (t235)))); rotate_left
 ·rw [if_neg c13] at H
  exact absurd H (by simp)
 rw [if_pos c13] at H
 have c13b0 := eq_true c13
 have c13b1 : decide (8 ≤ (wrap64 (8 + (wrap64 (t235))))) = true := decide_eq_true c13
 by_cases c14 : (wrap64 (8 + (wrap64 (t235)))) ≤ (a0.size : Int); rotate_left
 ·rw [if_neg c14] at H
  exact absurd H (by simp)
 rw [if_pos c14] at H
 have c14b0 := eq_true c14
 have c14b1 : decide ((wrap64 (8 + (wrap64 (t235)))) ≤ (a0.size : Int)) = true := decide_eq_true c14
 by_cases c15 : (a0.extract 0 4).size + (a0.extract 8 ((wrap64 (8 + (wrap64 (t235)))) : Int).toNat).size ≤ 9223372036854775807; rotate_left
 ·rw [if_neg c15] at H
  exact absurd H (by simp)
 rw [if_pos c15] at H
 have c15b0 := eq_true c15
 have c15b1 : decide ((a0.extract 0 4).size + (a0.extract 8 ((wrap64 (8 + (wrap64 (t235)))) : Int).toNat).size ≤ 9223372036854775807) = true := decide_eq_true c15
 try have c15b2 : (9223372036854775807 < (a0.extract 0 4).size + (a0.extract 8 ((wrap64 (8 + (wrap64 (t235)))) : Int).toNat).size) = False := eq_false (Nat.not_lt.2 c15)
 replace H := Option.bind_eq_some_iff.mp H
 obtain ⟨t237, A160, H⟩ := H
 replace H : (if t236 = t237 then (some (a0.extract 8 ((wrap64 (8 + (wrap64 (t235)))) : Int).toNat, wrap64 (8 + (wrap64 (t235))), 0)) else (some ((⟨#[]⟩ : ByteArray), 0, 4))) = some (r1, r2, r3) := H
 have A16 := Aside0.mk A160
 clear A160
 by_cases c17 : t236 = t237; rotate_left
 ·rw [if_neg c17] at H
  have c17b0 : (t236 == t237) = false := beq_eq_false_iff_ne.mpr c17
  have c17b1 : (t236 != t237) = true := bne_iff_ne.mpr c17
  simp only [Option.some.injEq, Prod.mk.injEq] at H
  obtain ⟨rfl, rfl, rfl⟩ := H
  go_enter Tryd.func23, Tryd.ntmps23
  go_wp2_with (first | (go_at_call 41; (with_reducible refine (carillonref02_value.calls (a0.extract 0 4) t235 _ A5.out).mono ?_); rintro e w' ⟨rfl, ⟨nd, rfl⟩⟩; (try first | exact ⟨rfl, _, World.drewN_drewN _ _ _⟩ | exact ⟨rfl, _, Eq.trans (World.drewN_drewN _ _ _) (congrArg (World.drewN _) (Nat.add_assoc _ _ _))⟩)) | (go_at_call 41; (with_reducible refine (carillonref02_value.calls (a0.extract 4 8) t236 _ A10.out).mono ?_); rintro e w' ⟨rfl, ⟨nd, rfl⟩⟩; (try first | exact ⟨rfl, _, World.drewN_drewN _ _ _⟩ | exact ⟨rfl, _, Eq.trans (World.drewN_drewN _ _ _) (congrArg (World.drewN _) (Nat.add_assoc _ _ _))⟩)) | (go_at_call 35; (with_reducible refine (carillonref02_Sum.calls k ((a0.extract 0 4) ++ (a0.extract 8 ((wrap64 (8 + (wrap64 (t235)))) : Int).toNat)) t237 _ A16.out).mono ?_); rintro e w' ⟨rfl, ⟨nd, rfl⟩⟩; (try first | exact ⟨rfl, _, World.drewN_drewN _ _ _⟩ | exact ⟨rfl, _, Eq.trans (World.drewN_drewN _ _ _) (congrArg (World.drewN _) (Nat.add_assoc _ _ _))⟩)))
  repeat (go_quiet (first | (go_at_call 41; (with_reducible refine (carillonref02_value.calls (a0.extract 0 4) t235 _ A5.out).mono ?_); rintro e w' ⟨rfl, ⟨nd, rfl⟩⟩; (try first | exact ⟨rfl, _, World.drewN_drewN _ _ _⟩ | exact ⟨rfl, _, Eq.trans (World.drewN_drewN _ _ _) (congrArg (World.drewN _) (Nat.add_assoc _ _ _))⟩)) | (go_at_call 41; (with_reducible refine (carillonref02_value.calls (a0.extract 4 8) t236 _ A10.out).mono ?_); rintro e w' ⟨rfl, ⟨nd, rfl⟩⟩; (try first | exact ⟨rfl, _, World.drewN_drewN _ _ _⟩ | exact ⟨rfl, _, Eq.trans (World.drewN_drewN _ _ _) (congrArg (World.drewN _) (Nat.add_assoc _ _ _))⟩)) | (go_at_call 35; (with_reducible refine (carillonref02_Sum.calls k ((a0.extract 0 4) ++ (a0.extract 8 ((wrap64 (8 + (wrap64 (t235)))) : Int).toNat)) t237 _ A16.out).mono ?_); rintro e w' ⟨rfl, ⟨nd, rfl⟩⟩; (try first | exact ⟨rfl, _, World.drewN_drewN _ _ _⟩ | exact ⟨rfl, _, Eq.trans (World.drewN_drewN _ _ _) (congrArg (World.drewN _) (Nat.add_assoc _ _ _))⟩))); try go_wp2_with (first | (go_at_call 41; (with_reducible refine (carillonref02_value.calls (a0.extract 0 4) t235 _ A5.out).mono ?_); rintro e w' ⟨rfl, ⟨nd, rfl⟩⟩; (try first | exact ⟨rfl, _, World.drewN_drewN _ _ _⟩ | exact ⟨rfl, _, Eq.trans (World.drewN_drewN _ _ _) (congrArg (World.drewN _) (Nat.add_assoc _ _ _))⟩)) | (go_at_call 41; (with_reducible refine (carillonref02_value.calls (a0.extract 4 8) t236 _ A10.out).mono ?_); rintro e w' ⟨rfl, ⟨nd, rfl⟩⟩; (try first | exact ⟨rfl, _, World.drewN_drewN _ _ _⟩ | exact ⟨rfl, _, Eq.trans (World.drewN_drewN _ _ _) (congrArg (World.drewN _) (Nat.add_assoc _ _ _))⟩)) | (go_at_call 35; (with_reducible refine (carillonref02_Sum.calls k ((a0.extract 0 4) ++ (a0.extract 8 ((wrap64 (8 + (wrap64 (t235)))) : Int).toNat)) t237 _ A16.out).mono ?_); rintro e w' ⟨rfl, ⟨nd, rfl⟩⟩; (try first | exact ⟨rfl, _, World.drewN_drewN _ _ _⟩ | exact ⟨rfl, _, Eq.trans (World.drewN_drewN _ _ _) (congrArg (World.drewN _) (Nat.add_assoc _ _ _))⟩))))
  go_ret3
  exact ⟨by first | rfl | (simp; done) | (simp [*]; done), by repeat (first | exact Drawn0.refl _ | apply Drawn0.step)⟩
 rw [if_pos c17] at H
 have c17b0 : (t236 == t237) = true := beq_iff_eq.mpr c17
 have c17b1 : (t236 != t237) = false := bne_eq_false_iff_eq.mpr c17
 clear c17
 have c18b0 := eq_true (od : 8 ≤ (wrap64 (8 + (wrap64 (t235)))))
 have c19b0 := eq_true (od : (wrap64 (8 + (wrap64 (t235)))) ≤ (a0.size : Int))
 simp only [Option.some.injEq, Prod.mk.injEq] at H
 obtain ⟨rfl, rfl, rfl⟩ := H
 go_enter Tryd.func23, Tryd.ntmps23
 go_wp2_with (first | (go_at_call 41; (with_reducible refine (carillonref02_value.calls (a0.extract 0 4) t235 _ A5.out).mono ?_); rintro e w' ⟨rfl, ⟨nd, rfl⟩⟩; (try first | exact ⟨rfl, _, World.drewN_drewN _ _ _⟩ | exact ⟨rfl, _, Eq.trans (World.drewN_drewN _ _ _) (congrArg (World.drewN _) (Nat.add_assoc _ _ _))⟩)) | (go_at_call 41; (with_reducible refine (carillonref02_value.calls (a0.extract 4 8) t236 _ A10.out).mono ?_); rintro e w' ⟨rfl, ⟨nd, rfl⟩⟩; (try first | exact ⟨rfl, _, World.drewN_drewN _ _ _⟩ | exact ⟨rfl, _, Eq.trans (World.drewN_drewN _ _ _) (congrArg (World.drewN _) (Nat.add_assoc _ _ _))⟩)) | (go_at_call 35; (with_reducible refine (carillonref02_Sum.calls k ((a0.extract 0 4) ++ (a0.extract 8 ((wrap64 (8 + (wrap64 (t235)))) : Int).toNat)) t237 _ A16.out).mono ?_); rintro e w' ⟨rfl, ⟨nd, rfl⟩⟩; (try first | exact ⟨rfl, _, World.drewN_drewN _ _ _⟩ | exact ⟨rfl, _, Eq.trans (World.drewN_drewN _ _ _) (congrArg (World.drewN _) (Nat.add_assoc _ _ _))⟩)))
 repeat (go_quiet (first | (go_at_call 41; (with_reducible refine (carillonref02_value.calls (a0.extract 0 4) t235 _ A5.out).mono ?_); rintro e w' ⟨rfl, ⟨nd, rfl⟩⟩; (try first | exact ⟨rfl, _, World.drewN_drewN _ _ _⟩ | exact ⟨rfl, _, Eq.trans (World.drewN_drewN _ _ _) (congrArg (World.drewN _) (Nat.add_assoc _ _ _))⟩)) | (go_at_call 41; (with_reducible refine (carillonref02_value.calls (a0.extract 4 8) t236 _ A10.out).mono ?_); rintro e w' ⟨rfl, ⟨nd, rfl⟩⟩; (try first | exact ⟨rfl, _, World.drewN_drewN _ _ _⟩ | exact ⟨rfl, _, Eq.trans (World.drewN_drewN _ _ _) (congrArg (World.drewN _) (Nat.add_assoc _ _ _))⟩)) | (go_at_call 35; (with_reducible refine (carillonref02_Sum.calls k ((a0.extract 0 4) ++ (a0.extract 8 ((wrap64 (8 + (wrap64 (t235)))) : Int).toNat)) t237 _ A16.out).mono ?_); rintro e w' ⟨rfl, ⟨nd, rfl⟩⟩; (try first | exact ⟨rfl, _, World.drewN_drewN _ _ _⟩ | exact ⟨rfl, _, Eq.trans (World.drewN_drewN _ _ _) (congrArg (World.drewN _) (Nat.add_assoc _ _ _))⟩))); try go_wp2_with (first | (go_at_call 41; (with_reducible refine (carillonref02_value.calls (a0.extract 0 4) t235 _ A5.out).mono ?_); rintro e w' ⟨rfl, ⟨nd, rfl⟩⟩; (try first | exact ⟨rfl, _, World.drewN_drewN _ _ _⟩ | exact ⟨rfl, _, Eq.trans (World.drewN_drewN _ _ _) (congrArg (World.drewN _) (Nat.add_assoc _ _ _))⟩)) | (go_at_call 41; (with_reducible refine (carillonref02_value.calls (a0.extract 4 8) t236 _ A10.out).mono ?_); rintro e w' ⟨rfl, ⟨nd, rfl⟩⟩; (try first | exact ⟨rfl, _, World.drewN_drewN _ _ _⟩ | exact ⟨rfl, _, Eq.trans (World.drewN_drewN _ _ _) (congrArg (World.drewN _) (Nat.add_assoc _ _ _))⟩)) | (go_at_call 35; (with_reducible refine (carillonref02_Sum.calls k ((a0.extract 0 4) ++ (a0.extract 8 ((wrap64 (8 + (wrap64 (t235)))) : Int).toNat)) t237 _ A16.out).mono ?_); rintro e w' ⟨rfl, ⟨nd, rfl⟩⟩; (try first | exact ⟨rfl, _, World.drewN_drewN _ _ _⟩ | exact ⟨rfl, _, Eq.trans (World.drewN_drewN _ _ _) (congrArg (World.drewN _) (Nat.add_assoc _ _ _))⟩))))
 go_ret3
 exact ⟨by first | rfl | (simp; done) | (simp [*]; done), by repeat (first | exact Drawn0.refl _ | apply Drawn0.step)⟩

/-! ### carillonref01_kindOf: function 49 -/
def carillonref01_kindOf.f (a0 : Int) : Option (Int) := if a0 = 98 then (some 1) else (if a0 = 119 then (some 2) else (if a0 = 108 then (some 3) else (if a0 = 116 then (some 4) else (some 0))))
set_option maxHeartbeats 8000000 in
set_option maxRecDepth 100000 in
theorem carillonref01_kindOf.calls (a0 : Int) (r : Int) (w : World) (h : carillonref01_kindOf.f a0 = some r) :
  Calls Tryd.prog 49 #[.int .u8 a0] w fun e w' => e = .returned (.int .i64 r) ∧ Drawn0 w w' := by
 have H : (if a0 = 98 then (some 1) else (if a0 = 119 then (some 2) else (if a0 = 108 then (some 3) else (if a0 = 116 then (some 4) else (some 0))))) = some r := h
 clear h
 by_cases c2 : a0 = 98
 ·rw [if_pos c2] at H
  have c2b0 : (a0 == 98) = true := beq_iff_eq.mpr c2
  have c2b1 : (a0 != 98) = false := bne_eq_false_iff_eq.mpr c2
  clear c2
  obtain rfl := Option.some.inj H
  go_enter Tryd.func49, Tryd.ntmps49
  go_wp2
  go_ret
  exact ⟨by first | rfl | (simp; done) | (simp [*]; done), by repeat (first | exact Drawn0.refl _ | apply Drawn0.step)⟩
 rw [if_neg c2] at H
 have c2b0 : (a0 == 98) = false := beq_eq_false_iff_ne.mpr c2
 have c2b1 : (a0 != 98) = true := bne_iff_ne.mpr c2
 by_cases c3 : a0 = 119
 ·rw [if_pos c3] at H
  have c3b0 : (a0 == 119) = true := beq_iff_eq.mpr c3
  have c3b1 : (a0 != 119) = false := bne_eq_false_iff_eq.mpr c3
  clear c3
  obtain rfl := Option.some.inj H
  go_enter Tryd.func49, Tryd.ntmps49
  go_wp2
  go_ret
  exact ⟨by first | rfl | (simp; done) | (simp [*]; done), by repeat (first | exact Drawn0.refl _ | apply Drawn0.step)⟩
 rw [if_neg c3] at H
 have c3b0 : (a0 == 119) = false := beq_eq_false_iff_ne.mpr c3
 have c3b1 : (a0 != 119) = true := bne_iff_ne.mpr c3
 by_cases c4 : a0 = 108
 ·rw [if_pos c4] at H
  have c4b0 : (a0 == 108) = true := beq_iff_eq.mpr c4
  have c4b1 : (a0 != 108) = false := bne_eq_false_iff_eq.mpr c4
  clear c4
  obtain rfl := Option.some.inj H
  go_enter Tryd.func49, Tryd.ntmps49
  go_wp2
  go_ret
  exact ⟨by first | rfl | (simp; done) | (simp [*]; done), by repeat (first | exact Drawn0.refl _ | apply Drawn0.step)⟩
 rw [if_neg c4] at H
 have c4b0 : (a0 == 108) = false := beq_eq_false_iff_ne.mpr c4
 have c4b1 : (a0 != 108) = true := bne_iff_ne.mpr c4
 by_cases c5 : a0 = 116; rotate_left
 ·rw [if_neg c5] at H
  have c5b0 : (a0 == 116) = false := beq_eq_false_iff_ne.mpr c5
  have c5b1 : (a0 != 116) = true := bne_iff_ne.mpr c5
  obtain rfl := Option.some.inj H
  go_enter Tryd.func49, Tryd.ntmps49
  go_wp2
  go_ret
  exact ⟨by first | rfl | (simp; done) | (simp [*]; done), by repeat (first | exact Drawn0.refl _ | apply Drawn0.step)⟩
 rw [if_pos c5] at H
 have c5b0 : (a0 == 116) = true := beq_iff_eq.mpr c5
 have c5b1 : (a0 != 116) = false := bne_eq_false_iff_eq.mpr c5
 clear c5
 obtain rfl := Option.some.inj H
 go_enter Tryd.func49, Tryd.ntmps49
 go_wp2
 go_ret
 exact ⟨by first | rfl | (simp; done) | (simp [*]; done), by repeat (first | exact Drawn0.refl _ | apply Drawn0.step)⟩

/-! ### carillonref01_kinds: function 42 -/
def carillonref01_kinds.l0 : Nat → ByteArray → List Int → List Int → Bool → Int → Option (List Int × List Int × Bool)
 | 0, _, _, _, _, _ => none
 | k + 1, x0, x5, x6, x7, x8 => if x8 < (x0.size : Int) then (if 0 ≤ x8 then ((carillonref01_kindOf.f (bt x0 x8)).bind fun t238 => (if (bt x0 x8) = 42 then (if x7 = true then (if t238 = 0 then (some (([] : List Int), ([] : List Int), false)) else (if x6.length < 17592186044416 then (carillonref01_kinds.l0 k x0 x5 (x6 ++ [t238]) x7 (wrap64 (x8 + 1))) else (none))) else (carillonref01_kinds.l0 k x0 x5 x6 true (wrap64 (x8 + 1)))) else (if t238 = 0 then (some (([] : List Int), ([] : List Int), false)) else (if x7 = true then (if x6.length < 17592186044416 then (carillonref01_kinds.l0 k x0 x5 (x6 ++ [t238]) x7 (wrap64 (x8 + 1))) else (none)) else (if x5.length < 17592186044416 then (carillonref01_kinds.l0 k x0 (x5 ++ [t238]) x6 x7 (wrap64 (x8 + 1))) else (none)))))) else (none)) else (if x7 = true then (some (x5, x6, decide ((x6.length : Int) > 0))) else (some (x5, x6, true)))
def carillonref01_kinds.f (k : Nat) (a0 : ByteArray) : Option (List Int × List Int × Bool) := carillonref01_kinds.l0 k a0 ([] : List Int) ([] : List Int) false 0
theorem carillonref01_kinds.mono_l : ∀ k, (∀ y0 y1 y2 y3 y4, LeO (carillonref01_kinds.l0 k y0 y1 y2 y3 y4) (carillonref01_kinds.l0 (k + 1) y0 y1 y2 y3 y4))
 | 0 => fun _ _ _ _ _ r h => by simp [carillonref01_kinds.l0] at h
 | k + 1 => by
  have ih0 := carillonref01_kinds.mono_l k
  ·intro y0 y1 y2 y3 y4
   unfold carillonref01_kinds.l0
   repeat' first
   | (with_reducible exact ih0 _ _ _ _ _)
   | (with_reducible exact LeO.refl _)
   | (with_reducible exact LeO.none _)
   | (with_reducible refine LeO.ite ?_ ?_)
   | (with_reducible refine LeO.bind ?_ (fun _ => ?_))
   | exact ih0 _ _ _ _ _
   | exact LeO.none _
   | refine LeO.ite ?_ ?_
   | refine LeO.bind ?_ (fun _ => ?_)
theorem carillonref01_kinds.mono : ∀ a0 k, LeO (carillonref01_kinds.f k a0) (carillonref01_kinds.f (k + 1) a0) := by
 intro a0 k
 have ih0 := carillonref01_kinds.mono_l k
 unfold carillonref01_kinds.f
 repeat' first
   | (with_reducible exact ih0 _ _ _ _ _)
   | (with_reducible exact LeO.refl _)
   | (with_reducible exact LeO.none _)
   | (with_reducible refine LeO.ite ?_ ?_)
   | (with_reducible refine LeO.bind ?_ (fun _ => ?_))
   | exact ih0 _ _ _ _ _
   | exact LeO.none _
   | refine LeO.ite ?_ ?_
   | refine LeO.bind ?_ (fun _ => ?_)
set_option maxHeartbeats 8000000 in
set_option maxRecDepth 100000 in
theorem carillonref01_kinds.calls (k : Nat) (a0 : ByteArray) (r1 : List Int) (r2 : List Int) (r3 : Bool) (w : World) (h : carillonref01_kinds.f k a0 = some (r1, r2, r3)) :
  Calls Tryd.prog 42 #[.string a0] w fun e w' => ∃ v0_ v1_ : Value, e = .returned (.tuple #[v0_, v1_, .bool r3]) ∧ Kd.R (Kd.int .i64) 3 w' w.heap.size (fun k_ => some k_ ≠ (v1_ : Value).ownBlock) v0_ r1 ∧ Kd.R (Kd.int .i64) 3 w' w.heap.size (fun k_ => some k_ ≠ (v0_ : Value).ownBlock) v1_ r2 ∧ Below w.heap.size w w' := by
 have HB := Aside0.mk (Below.refl w.heap.size w)
 have H : (carillonref01_kinds.l0 k a0 ([] : List Int) ([] : List Int) false 0) = some (r1, r2, r3) := h
 clear h
 have H' := Aside0.mk H
 clear H
 go_enter Tryd.func42, Tryd.ntmps42
 go_wp2
 go_loopg [5, 6, 7, 8] k (fun kq v5 v6 v7 v8 w' => ∃ (x5_1 : List Int) (x6_1 : List Int) (x7_1 : Bool) (x8_1 : Int), v7 = .bool x7_1 ∧ v8 = .int .i64 x8_1 ∧ Aside0 (carillonref01_kinds.l0 kq a0 x5_1 x6_1 x7_1 x8_1 = some (r1, r2, r3)) ∧ Aside0 (kq ≤ k) ∧ Aside0 (Kd.R (Kd.int .i64) 3 w' w.heap.size (fun k_ => some k_ ≠ (v6 : Value).ownBlock) v5 x5_1) ∧ Aside0 (Kd.R (Kd.int .i64) 3 w' w.heap.size (fun k_ => some k_ ≠ (v5 : Value).ownBlock) v6 x6_1) ∧ Aside0 (Below w.heap.size w w'))
 case atStart => exact ⟨(([] : List Int)), (([] : List Int)), (false), (0), (by first | rfl | (simp; done) | (simp [*]; done)), (by first | rfl | (simp; done) | (simp [*]; done)), H', ⟨Nat.le_refl _⟩, ⟨by first | exact Kd.R_nil _ _ _ _ _ | exact Kd.N_nil _ _ _ _ _ | exact Kd.V_nil _ _ _ _ _ | exact Kd.Q_nil _ _ _ _ _ | exact Kd.S_nil _ _ _ _ _⟩, ⟨by first | exact Kd.R_nil _ _ _ _ _ | exact Kd.N_nil _ _ _ _ _ | exact Kd.V_nil _ _ _ _ _ | exact Kd.Q_nil _ _ _ _ _ | exact Kd.S_nil _ _ _ _ _⟩, ⟨bw⟩⟩
 case round =>
  clear H'
  obtain ⟨x5_1, x6_1, x7_1, x8_1, rfl, rfl, HA, HK1, aa, ab, HB⟩ := hrel
  cases gk with
  | zero => exact absurd HA.out (by simp [carillonref01_kinds.l0])
  | succ k1 =>
   have H := HA.out
   clear HA
   simp only [carillonref01_kinds.l0] at H
   by_cases c2 : x8_1 < (a0.size : Int); rotate_left
   ·rw [if_neg c2] at H
    have c2b0 : decide (x8_1 < (a0.size : Int)) = false := decide_eq_false c2
    clear c2
    by_cases c18 : x7_1 = true; rotate_left
    ·replace c18 := Bool.eq_false_iff.mpr c18
     subst c18
     have H1 : (some (x5_1, x6_1, true)) = some (r1, r2, r3) := by rw [if_neg (show ¬ (false = true) by decide)] at H; exact H
     clear H
     have H := H1
     clear H1
     simp only [Option.some.injEq, Prod.mk.injEq] at H
     obtain ⟨rfl, rfl, rfl⟩ := H
     go_wp2
     go_ret3
     exact ⟨_, _, er, by (with_reducible repeat (first | apply Kd.R_alloc | apply Kd.R_drewN | apply Kd.R_drew)); exact aa.out, by (with_reducible repeat (first | apply Kd.R_alloc | apply Kd.R_drewN | apply Kd.R_drew)); exact ab.out, bw⟩
    subst c18
    have H1 : (some (x5_1, x6_1, decide ((x6_1.length : Int) > 0))) = some (r1, r2, r3) := by rw [if_pos rfl] at H; exact H
    clear H
    have H := H1
    clear H1
    simp only [Option.some.injEq, Prod.mk.injEq] at H
    obtain ⟨rfl, rfl, rfl⟩ := H
    obtain ⟨Ao19, co19, eo19⟩ := Kd.R_slice ab.out
    subst eo19
    go_wp2
    go_ret3
    exact ⟨_, _, er, by (with_reducible repeat (first | apply Kd.R_alloc | apply Kd.R_drewN | apply Kd.R_drew)); exact aa.out, by (with_reducible repeat (first | apply Kd.R_alloc | apply Kd.R_drewN | apply Kd.R_drew)); exact ab.out, bw⟩
   rw [if_pos c2] at H
   have c2b0 : decide (x8_1 < (a0.size : Int)) = true := decide_eq_true c2
   clear c2
   by_cases c3 : 0 ≤ x8_1; rotate_left
   ·rw [if_neg c3] at H
    exact absurd H (by simp)
   rw [if_pos c3] at H
   have c3b0 : decide (0 ≤ x8_1) = true := decide_eq_true c3
   clear c3
   replace H := Option.bind_eq_some_iff.mp H
   obtain ⟨t238, A50, H⟩ := H
   replace H : (if (bt a0 x8_1) = 42 then (if x7_1 = true then (if t238 = 0 then (some (([] : List Int), ([] : List Int), false)) else (if x6_1.length < 17592186044416 then (carillonref01_kinds.l0 k1 a0 x5_1 (x6_1 ++ [t238]) x7_1 (wrap64 (x8_1 + 1))) else (none))) else (carillonref01_kinds.l0 k1 a0 x5_1 x6_1 true (wrap64 (x8_1 + 1)))) else (if t238 = 0 then (some (([] : List Int), ([] : List Int), false)) else (if x7_1 = true then (if x6_1.length < 17592186044416 then (carillonref01_kinds.l0 k1 a0 x5_1 (x6_1 ++ [t238]) x7_1 (wrap64 (x8_1 + 1))) else (none)) else (if x5_1.length < 17592186044416 then (carillonref01_kinds.l0 k1 a0 (x5_1 ++ [t238]) x6_1 x7_1 (wrap64 (x8_1 + 1))) else (none))))) = some (r1, r2, r3) := H
   have A5 := Aside0.mk A50
   clear A50
   by_cases c7 : (bt a0 x8_1) = 42
   ·rw [if_pos c7] at H
    have c7b0 : ((bt a0 x8_1) == 42) = true := beq_iff_eq.mpr c7
    have c7b1 : ((bt a0 x8_1) != 42) = false := bne_eq_false_iff_eq.mpr c7
    clear c7
    by_cases c8 : x7_1 = true; rotate_left
    ·replace c8 := Bool.eq_false_iff.mpr c8
     subst c8
     have H1 : (carillonref01_kinds.l0 k1 a0 x5_1 x6_1 true (wrap64 (x8_1 + 1))) = some (r1, r2, r3) := by rw [if_neg (show ¬ (false = true) by decide)] at H; exact H
     clear H
     have H := H1
     clear H1
     have H' := Aside0.mk H
     clear H
     have p4 : 0 ≤ (x8_1 : Int) := od
     have q4 : x8_1 < (a0.size : Int) := od
     have hx4 := bt_at a0 x8_1
     replace p4 := eq_true p4
     replace q4 := eq_true q4
     go_wp2_with (first | ((with_reducible refine gate_callee (f := 49) rfl ?_); refine goesL_ (some 19) rfl rfl Tryd.func49 (by kernel_rfl) rfl #[.int .u8 (bt a0 x8_1)] rfl am ?_; (with_reducible refine (carillonref01_kindOf.calls (bt a0 x8_1) t238 _ A5.out).mono ?_); rintro e w' ⟨rfl, ⟨nd, rfl⟩⟩; refine ⟨_, rfl, ?_⟩; have p6 : 0 ≤ (x8_1 : Int) := od; have q6 : x8_1 < (a0.size : Int) := od; have hx6 := bt_at a0 x8_1; replace p6 := eq_true p6; replace q6 := eq_true q6))
     go_roundg k1
     case measure => have := HK1.out; omega
     case rel => exact ⟨(x5_1), (x6_1), (true), (wrap64 (x8_1 + 1)), (by first | rfl | (simp; done) | (simp [*]; done)), (by first | rfl | (simp; done) | (simp [*]; done)), H', ⟨by have := HK1.out; omega⟩, ⟨by (with_reducible repeat (first | apply Kd.R_alloc | apply Kd.R_drewN | apply Kd.R_drew)); exact aa.out⟩, ⟨by (with_reducible repeat (first | apply Kd.R_alloc | apply Kd.R_drewN | apply Kd.R_drew)); exact ab.out⟩, ⟨bw⟩⟩
    subst c8
    have H1 : (if t238 = 0 then (some (([] : List Int), ([] : List Int), false)) else (if x6_1.length < 17592186044416 then (carillonref01_kinds.l0 k1 a0 x5_1 (x6_1 ++ [t238]) true (wrap64 (x8_1 + 1))) else (none))) = some (r1, r2, r3) := by rw [if_pos rfl] at H; exact H
    clear H
    have H := H1
    clear H1
    by_cases c9 : t238 = 0
    ·rw [if_pos c9] at H
     have c9b0 : (t238 == 0) = true := beq_iff_eq.mpr c9
     have c9b1 : (t238 != 0) = false := bne_eq_false_iff_eq.mpr c9
     clear c9
     simp only [Option.some.injEq, Prod.mk.injEq] at H
     obtain ⟨rfl, rfl, rfl⟩ := H
     have p4 : 0 ≤ (x8_1 : Int) := od
     have q4 : x8_1 < (a0.size : Int) := od
     have hx4 := bt_at a0 x8_1
     replace p4 := eq_true p4
     replace q4 := eq_true q4
     go_wp2_with (first | ((with_reducible refine gate_callee (f := 49) rfl ?_); refine goesL_ (some 19) rfl rfl Tryd.func49 (by kernel_rfl) rfl #[.int .u8 (bt a0 x8_1)] rfl am ?_; (with_reducible refine (carillonref01_kindOf.calls (bt a0 x8_1) t238 _ A5.out).mono ?_); rintro e w' ⟨rfl, ⟨nd, rfl⟩⟩; refine ⟨_, rfl, ?_⟩; have p6 : 0 ≤ (x8_1 : Int) := od; have q6 : x8_1 < (a0.size : Int) := od; have hx6 := bt_at a0 x8_1; replace p6 := eq_true p6; replace q6 := eq_true q6))
     go_ret3
     exact ⟨_, _, er, by first | exact Kd.R_nil _ _ _ _ _ | exact Kd.N_nil _ _ _ _ _ | exact Kd.V_nil _ _ _ _ _ | exact Kd.Q_nil _ _ _ _ _ | exact Kd.S_nil _ _ _ _ _, by first | exact Kd.R_nil _ _ _ _ _ | exact Kd.N_nil _ _ _ _ _ | exact Kd.V_nil _ _ _ _ _ | exact Kd.Q_nil _ _ _ _ _ | exact Kd.S_nil _ _ _ _ _, bw⟩
    rw [if_neg c9] at H
    have c9b0 : (t238 == 0) = false := beq_eq_false_iff_ne.mpr c9
    have c9b1 : (t238 != 0) = true := bne_iff_ne.mpr c9
    by_cases c10 : x6_1.length < 17592186044416; rotate_left
    ·rw [if_neg c10] at H
     exact absurd H (by simp)
    rw [if_pos c10] at H
    have LMc10 := Aside0.mk c10
    clear c10
    obtain ⟨y239, hy239⟩ : ∃ y_ : List Int, y_ = (x6_1 ++ [t238]) := ⟨_, rfl⟩
    replace H : (carillonref01_kinds.l0 k1 a0 x5_1 y239 true (wrap64 (x8_1 + 1))) = some (r1, r2, r3) := by first | (rw [hy239]; with_reducible exact H) | (have H2_ := (Option.bind_some _ _).symm.trans H; rw [hy239]; with_reducible exact H2_) | (have H2_ := (Option.bind_some _ _).symm.trans H; with_reducible exact H2_) | with_reducible exact H | (rw [hy239]; exact H) | exact H
    have Ny239 := Aside0.mk hy239
    clear hy239
    have H' := Aside0.mk H
    clear H
    have p4 : 0 ≤ (x8_1 : Int) := od
    have q4 : x8_1 < (a0.size : Int) := od
    have hx4 := bt_at a0 x8_1
    replace p4 := eq_true p4
    replace q4 := eq_true q4
    go_wp2_with (first | ((with_reducible refine gate_callee (f := 49) rfl ?_); refine goesL_ (some 19) rfl rfl Tryd.func49 (by kernel_rfl) rfl #[.int .u8 (bt a0 x8_1)] rfl am ?_; (with_reducible refine (carillonref01_kindOf.calls (bt a0 x8_1) t238 _ A5.out).mono ?_); rintro e w' ⟨rfl, ⟨nd, rfl⟩⟩; refine ⟨_, rfl, ?_⟩; have p6 : 0 ≤ (x8_1 : Int) := od; have q6 : x8_1 < (a0.size : Int) := od; have hx6 := bt_at a0 x8_1; replace p6 := eq_true p6; replace q6 := eq_true q6) | ((with_reducible refine gate_builtin (b := .append) (xs := #[.tmp 38, .tmp 40]) rfl ?_); (try (refine gate_guard (by rfl) ?_; dsimp only)); at_builtin; refine Kd.R_append (Kd.int .i64) (w0 := w) w.heap.size rfl (.tmp 38) (.tmp 40) 86 3 (.int .i64 0) 8 rfl Tryd.underlying86 info3 rfl (by decide) (by omega) u6 x6_1 t238 [.int .i64 t238] (fun k_ => some k_ ≠ (u5 : Value).ownBlock) (fun _ => False) rfl rfl ?aP (fun _ hk => hk.elim) ?aF ?aO ?aB ?aS ?aL ?_; (case aP => exact rfl); (case aB => exact bw); (case aF => exact (fun k_ hk => Kd.fresh' (Kd.R_lt (by (with_reducible repeat (first | apply Kd.R_alloc | apply Kd.R_drewN | apply Kd.R_drew)); exact aa.out)) k_ hk)); (case aO => exact (by (with_reducible repeat (first | apply Kd.R_alloc | apply Kd.R_drewN | apply Kd.R_drew)); exact ab.out)); (case aS => exact (below_size bw)); (case aL => have := LMc10.out; omega); intro v240 w11 ho hb hg hat; rw [← Ny239.out] at ho; have n0_ := Aside0.mk (Kd.R_after (ok := (fun _ => True)) (by (with_reducible repeat (first | apply Kd.R_alloc | apply Kd.R_drewN | apply Kd.R_drew)); exact Kd.R_mono aa.out (fun _ hk => ⟨trivial, hk⟩)) hg hat); have n1_ := Aside0.mk (hb); have n2_ := Aside0.mk (ho); clear aa; clear HB; clear ab; have aa := n0_; have HB := n1_; have HO241 := n2_; clear n0_ n1_ n2_; clear ho hb hg hat))
    go_roundg k1
    case measure => have := HK1.out; omega
    case rel => exact ⟨(x5_1), (y239), (true), (wrap64 (x8_1 + 1)), (by first | rfl | (simp; done) | (simp [*]; done)), (by first | rfl | (simp; done) | (simp [*]; done)), H', ⟨by have := HK1.out; omega⟩, ⟨by (with_reducible repeat (first | apply Kd.R_alloc | apply Kd.R_drewN | apply Kd.R_drew)); exact Kd.R_mono aa.out (fun _ hk => hk.2)⟩, ⟨by (with_reducible repeat (first | apply Kd.R_alloc | apply Kd.R_drewN | apply Kd.R_drew)); exact HO241.out⟩, ⟨bw⟩⟩
   rw [if_neg c7] at H
   have c7b0 : ((bt a0 x8_1) == 42) = false := beq_eq_false_iff_ne.mpr c7
   have c7b1 : ((bt a0 x8_1) != 42) = true := bne_iff_ne.mpr c7
   by_cases c12 : t238 = 0
   ·rw [if_pos c12] at H
    have c12b0 : (t238 == 0) = true := beq_iff_eq.mpr c12
    have c12b1 : (t238 != 0) = false := bne_eq_false_iff_eq.mpr c12
    clear c12
    simp only [Option.some.injEq, Prod.mk.injEq] at H
    obtain ⟨rfl, rfl, rfl⟩ := H
    have p4 : 0 ≤ (x8_1 : Int) := od
    have q4 : x8_1 < (a0.size : Int) := od
    have hx4 := bt_at a0 x8_1
    replace p4 := eq_true p4
    replace q4 := eq_true q4
    go_wp2_with (first | ((with_reducible refine gate_callee (f := 49) rfl ?_); refine goesL_ (some 19) rfl rfl Tryd.func49 (by kernel_rfl) rfl #[.int .u8 (bt a0 x8_1)] rfl am ?_; (with_reducible refine (carillonref01_kindOf.calls (bt a0 x8_1) t238 _ A5.out).mono ?_); rintro e w' ⟨rfl, ⟨nd, rfl⟩⟩; refine ⟨_, rfl, ?_⟩; have p6 : 0 ≤ (x8_1 : Int) := od; have q6 : x8_1 < (a0.size : Int) := od; have hx6 := bt_at a0 x8_1; replace p6 := eq_true p6; replace q6 := eq_true q6))
    go_ret3
    exact ⟨_, _, er, by first | exact Kd.R_nil _ _ _ _ _ | exact Kd.N_nil _ _ _ _ _ | exact Kd.V_nil _ _ _ _ _ | exact Kd.Q_nil _ _ _ _ _ | exact Kd.S_nil _ _ _ _ _, by first | exact Kd.R_nil _ _ _ _ _ | exact Kd.N_nil _ _ _ _ _ | exact Kd.V_nil _ _ _ _ _ | exact Kd.Q_nil _ _ _ _ _ | exact Kd.S_nil _ _ _ _ _, bw⟩
   rw [if_neg c12] at H
   have c12b0 : (t238 == 0) = false := beq_eq_false_iff_ne.mpr c12
   have c12b1 : (t238 != 0) = true := bne_iff_ne.mpr c12
   by_cases c13 : x7_1 = true
   ·subst c13
    have H1 : (if x6_1.length < 17592186044416 then (carillonref01_kinds.l0 k1 a0 x5_1 (x6_1 ++ [t238]) true (wrap64 (x8_1 + 1))) else (none)) = some (r1, r2, r3) := by rw [if_pos rfl] at H; exact H
    clear H
    have H := H1
    clear H1
    by_cases c14 : x6_1.length < 17592186044416; rotate_left
    ·rw [if_neg c14] at H
     exact absurd H (by simp)
    rw [if_pos c14] at H
    have LMc14 := Aside0.mk c14
    clear c14
    obtain ⟨y242, hy242⟩ : ∃ y_ : List Int, y_ = (x6_1 ++ [t238]) := ⟨_, rfl⟩
    replace H : (carillonref01_kinds.l0 k1 a0 x5_1 y242 true (wrap64 (x8_1 + 1))) = some (r1, r2, r3) := by first | (rw [hy242]; with_reducible exact H) | (have H2_ := (Option.bind_some _ _).symm.trans H; rw [hy242]; with_reducible exact H2_) | (have H2_ := (Option.bind_some _ _).symm.trans H; with_reducible exact H2_) | with_reducible exact H | (rw [hy242]; exact H) | exact H
    have Ny242 := Aside0.mk hy242
    clear hy242
    have H' := Aside0.mk H
    clear H
    have p4 : 0 ≤ (x8_1 : Int) := od
    have q4 : x8_1 < (a0.size : Int) := od
    have hx4 := bt_at a0 x8_1
    replace p4 := eq_true p4
    replace q4 := eq_true q4
    go_wp2_with (first | ((with_reducible refine gate_callee (f := 49) rfl ?_); refine goesL_ (some 19) rfl rfl Tryd.func49 (by kernel_rfl) rfl #[.int .u8 (bt a0 x8_1)] rfl am ?_; (with_reducible refine (carillonref01_kindOf.calls (bt a0 x8_1) t238 _ A5.out).mono ?_); rintro e w' ⟨rfl, ⟨nd, rfl⟩⟩; refine ⟨_, rfl, ?_⟩; have p6 : 0 ≤ (x8_1 : Int) := od; have q6 : x8_1 < (a0.size : Int) := od; have hx6 := bt_at a0 x8_1; replace p6 := eq_true p6; replace q6 := eq_true q6) | ((with_reducible refine gate_builtin (b := .append) (xs := #[.tmp 38, .tmp 40]) rfl ?_); (try (refine gate_guard (by rfl) ?_; dsimp only)); at_builtin; refine Kd.R_append (Kd.int .i64) (w0 := w) w.heap.size rfl (.tmp 38) (.tmp 40) 86 3 (.int .i64 0) 8 rfl Tryd.underlying86 info3 rfl (by decide) (by omega) u6 x6_1 t238 [.int .i64 t238] (fun k_ => some k_ ≠ (u5 : Value).ownBlock) (fun _ => False) rfl rfl ?aP (fun _ hk => hk.elim) ?aF ?aO ?aB ?aS ?aL ?_; (case aP => exact rfl); (case aB => exact bw); (case aF => exact (fun k_ hk => Kd.fresh' (Kd.R_lt (by (with_reducible repeat (first | apply Kd.R_alloc | apply Kd.R_drewN | apply Kd.R_drew)); exact aa.out)) k_ hk)); (case aO => exact (by (with_reducible repeat (first | apply Kd.R_alloc | apply Kd.R_drewN | apply Kd.R_drew)); exact ab.out)); (case aS => exact (below_size bw)); (case aL => have := LMc14.out; omega); intro v243 w15 ho hb hg hat; rw [← Ny242.out] at ho; have n0_ := Aside0.mk (Kd.R_after (ok := (fun _ => True)) (by (with_reducible repeat (first | apply Kd.R_alloc | apply Kd.R_drewN | apply Kd.R_drew)); exact Kd.R_mono aa.out (fun _ hk => ⟨trivial, hk⟩)) hg hat); have n1_ := Aside0.mk (hb); have n2_ := Aside0.mk (ho); clear aa; clear HB; clear ab; have aa := n0_; have HB := n1_; have HO244 := n2_; clear n0_ n1_ n2_; clear ho hb hg hat))
    go_roundg k1
    case measure => have := HK1.out; omega
    case rel => exact ⟨(x5_1), (y242), (true), (wrap64 (x8_1 + 1)), (by first | rfl | (simp; done) | (simp [*]; done)), (by first | rfl | (simp; done) | (simp [*]; done)), H', ⟨by have := HK1.out; omega⟩, ⟨by (with_reducible repeat (first | apply Kd.R_alloc | apply Kd.R_drewN | apply Kd.R_drew)); exact Kd.R_mono aa.out (fun _ hk => hk.2)⟩, ⟨by (with_reducible repeat (first | apply Kd.R_alloc | apply Kd.R_drewN | apply Kd.R_drew)); exact HO244.out⟩, ⟨bw⟩⟩
   replace c13 := Bool.eq_false_iff.mpr c13
   subst c13
   have H1 : (if x5_1.length < 17592186044416 then (carillonref01_kinds.l0 k1 a0 (x5_1 ++ [t238]) x6_1 false (wrap64 (x8_1 + 1))) else (none)) = some (r1, r2, r3) := by rw [if_neg (show ¬ (false = true) by decide)] at H; exact H
   clear H
   have H := H1
   clear H1
   by_cases c16 : x5_1.length < 17592186044416; rotate_left
   ·rw [if_neg c16] at H
    exact absurd H (by simp)
   rw [if_pos c16] at H
   have LMc16 := Aside0.mk c16
   clear c16
   obtain ⟨y245, hy245⟩ : ∃ y_ : List Int, y_ = (x5_1 ++ [t238]) := ⟨_, rfl⟩
   replace H : (carillonref01_kinds.l0 k1 a0 y245 x6_1 false (wrap64 (x8_1 + 1))) = some (r1, r2, r3) := by first | (rw [hy245]; with_reducible exact H) | (have H2_ := (Option.bind_some _ _).symm.trans H; rw [hy245]; with_reducible exact H2_) | (have H2_ := (Option.bind_some _ _).symm.trans H; with_reducible exact H2_) | with_reducible exact H | (rw [hy245]; exact H) | exact H
   have Ny245 := Aside0.mk hy245
   clear hy245
   have H' := Aside0.mk H
   clear H
   have p4 : 0 ≤ (x8_1 : Int) := od
   have q4 : x8_1 < (a0.size : Int) := od
   have hx4 := bt_at a0 x8_1
   replace p4 := eq_true p4
   replace q4 := eq_true q4
   go_wp2_with (first | ((with_reducible refine gate_callee (f := 49) rfl ?_); refine goesL_ (some 19) rfl rfl Tryd.func49 (by kernel_rfl) rfl #[.int .u8 (bt a0 x8_1)] rfl am ?_; (with_reducible refine (carillonref01_kindOf.calls (bt a0 x8_1) t238 _ A5.out).mono ?_); rintro e w' ⟨rfl, ⟨nd, rfl⟩⟩; refine ⟨_, rfl, ?_⟩; have p6 : 0 ≤ (x8_1 : Int) := od; have q6 : x8_1 < (a0.size : Int) := od; have hx6 := bt_at a0 x8_1; replace p6 := eq_true p6; replace q6 := eq_true q6) | ((with_reducible refine gate_builtin (b := .append) (xs := #[.tmp 20, .tmp 22]) rfl ?_); (try (refine gate_guard (by rfl) ?_; dsimp only)); at_builtin; refine Kd.R_append (Kd.int .i64) (w0 := w) w.heap.size rfl (.tmp 20) (.tmp 22) 86 3 (.int .i64 0) 8 rfl Tryd.underlying86 info3 rfl (by decide) (by omega) u5 x5_1 t238 [.int .i64 t238] (fun k_ => some k_ ≠ (u6 : Value).ownBlock) (fun _ => False) rfl rfl ?aP (fun _ hk => hk.elim) ?aF ?aO ?aB ?aS ?aL ?_; (case aP => exact rfl); (case aB => exact bw); (case aF => exact (fun k_ hk => Kd.fresh' (Kd.R_lt (by (with_reducible repeat (first | apply Kd.R_alloc | apply Kd.R_drewN | apply Kd.R_drew)); exact ab.out)) k_ hk)); (case aO => exact (by (with_reducible repeat (first | apply Kd.R_alloc | apply Kd.R_drewN | apply Kd.R_drew)); exact aa.out)); (case aS => exact (below_size bw)); (case aL => have := LMc16.out; omega); intro v246 w17 ho hb hg hat; rw [← Ny245.out] at ho; have n0_ := Aside0.mk (Kd.R_after (ok := (fun _ => True)) (by (with_reducible repeat (first | apply Kd.R_alloc | apply Kd.R_drewN | apply Kd.R_drew)); exact Kd.R_mono ab.out (fun _ hk => ⟨trivial, hk⟩)) hg hat); have n1_ := Aside0.mk (hb); have n2_ := Aside0.mk (ho); clear ab; clear HB; clear aa; have ab := n0_; have HB := n1_; have HO247 := n2_; clear n0_ n1_ n2_; clear ho hb hg hat))
   go_roundg k1
   case measure => have := HK1.out; omega
   case rel => exact ⟨(y245), (x6_1), (false), (wrap64 (x8_1 + 1)), (by first | rfl | (simp; done) | (simp [*]; done)), (by first | rfl | (simp; done) | (simp [*]; done)), H', ⟨by have := HK1.out; omega⟩, ⟨by (with_reducible repeat (first | apply Kd.R_alloc | apply Kd.R_drewN | apply Kd.R_drew)); exact HO247.out⟩, ⟨by (with_reducible repeat (first | apply Kd.R_alloc | apply Kd.R_drewN | apply Kd.R_drew)); exact Kd.R_mono ab.out (fun _ hk => hk.2)⟩, ⟨bw⟩⟩

/-! ### carillonref01_value: function 50 -/
def carillonref01_value.l0 : Nat → ByteArray → Int → Int → Option (Int)
 | 0, _, _, _ => none
 | k + 1, x0, x3, x4 => if x4 < (x0.size : Int) then (if 0 ≤ x4 then (carillonref01_value.l0 k x0 (IntKind.u64.wrap ((IntKind.u64.wrap (256 * x3)) + (IntKind.u64.wrap (bt x0 x4)))) (wrap64 (x4 + 1))) else (none)) else (some x3)
def carillonref01_value.f (k : Nat) (a0 : ByteArray) : Option (Int) := carillonref01_value.l0 k a0 0 0
theorem carillonref01_value.mono_l : ∀ k, (∀ y0 y1 y2, LeO (carillonref01_value.l0 k y0 y1 y2) (carillonref01_value.l0 (k + 1) y0 y1 y2))
 | 0 => fun _ _ _ r h => by simp [carillonref01_value.l0] at h
 | k + 1 => by
  have ih0 := carillonref01_value.mono_l k
  ·intro y0 y1 y2
   unfold carillonref01_value.l0
   repeat' first
   | (with_reducible exact ih0 _ _ _)
   | (with_reducible exact LeO.refl _)
   | (with_reducible exact LeO.none _)
   | (with_reducible refine LeO.ite ?_ ?_)
   | (with_reducible refine LeO.bind ?_ (fun _ => ?_))
   | exact ih0 _ _ _
   | exact LeO.none _
   | refine LeO.ite ?_ ?_
   | refine LeO.bind ?_ (fun _ => ?_)
theorem carillonref01_value.mono : ∀ a0 k, LeO (carillonref01_value.f k a0) (carillonref01_value.f (k + 1) a0) := by
 intro a0 k
 have ih0 := carillonref01_value.mono_l k
 unfold carillonref01_value.f
 repeat' first
   | (with_reducible exact ih0 _ _ _)
   | (with_reducible exact LeO.refl _)
   | (with_reducible exact LeO.none _)
   | (with_reducible refine LeO.ite ?_ ?_)
   | (with_reducible refine LeO.bind ?_ (fun _ => ?_))
   | exact ih0 _ _ _
   | exact LeO.none _
   | refine LeO.ite ?_ ?_
   | refine LeO.bind ?_ (fun _ => ?_)
set_option maxHeartbeats 8000000 in
set_option maxRecDepth 100000 in
theorem carillonref01_value.calls (k : Nat) (a0 : ByteArray) (r : Int) (w : World) (h : carillonref01_value.f k a0 = some r) :
  Calls Tryd.prog 50 #[.string a0] w fun e w' => e = .returned (.int .u64 r) ∧ Drawn0 w w' := by
 have H : (carillonref01_value.l0 k a0 0 0) = some r := h
 clear h
 have H' := Aside0.mk H
 clear H
 go_enter Tryd.func50, Tryd.ntmps50
 go_wp2
 go_loopg [3, 4] k (fun kq v3 v4 w' => ∃ (x3_1 : Int) (x4_1 : Int), v3 = .int .u64 x3_1 ∧ v4 = .int .i64 x4_1 ∧ Aside0 (carillonref01_value.l0 kq a0 x3_1 x4_1 = some r) ∧ Aside0 (kq ≤ k) ∧ Drawn0 w w')
 case atStart => exact ⟨(0), (0), (by first | rfl | (simp; done) | (simp [*]; done)), (by first | rfl | (simp; done) | (simp [*]; done)), H', ⟨Nat.le_refl _⟩, by repeat (first | exact Drawn0.refl _ | apply Drawn0.step)⟩
 case round =>
  clear H'
  obtain ⟨x3_1, x4_1, rfl, rfl, HA, HK1, ⟨m1, rfl⟩⟩ := hrel
  cases gk with
  | zero => exact absurd HA.out (by simp [carillonref01_value.l0])
  | succ k1 =>
   have H := HA.out
   clear HA
   simp only [carillonref01_value.l0] at H
   by_cases c2 : x4_1 < (a0.size : Int); rotate_left
   ·rw [if_neg c2] at H
    have c2b0 : decide (x4_1 < (a0.size : Int)) = false := decide_eq_false c2
    clear c2
    obtain rfl := Option.some.inj H
    go_wp2
    go_ret
    exact ⟨by first | rfl | (simp; done) | (simp [*]; done), by repeat (first | exact Drawn0.refl _ | apply Drawn0.step)⟩
   rw [if_pos c2] at H
   have c2b0 : decide (x4_1 < (a0.size : Int)) = true := decide_eq_true c2
   clear c2
   by_cases c3 : 0 ≤ x4_1; rotate_left
   ·rw [if_neg c3] at H
    exact absurd H (by simp)
   rw [if_pos c3] at H
   have c3b0 : decide (0 ≤ x4_1) = true := decide_eq_true c3
   clear c3
   have H' := Aside0.mk H
   clear H
   have p4 : 0 ≤ (x4_1 : Int) := od
   have q4 : x4_1 < (a0.size : Int) := od
   have hx4 := bt_at a0 x4_1
   replace p4 := eq_true p4
   replace q4 := eq_true q4
   go_wp2
   go_roundg k1
   case measure => have := HK1.out; omega
   case rel => exact ⟨(IntKind.u64.wrap ((IntKind.u64.wrap (256 * x3_1)) + (IntKind.u64.wrap (bt a0 x4_1)))), (wrap64 (x4_1 + 1)), (by first | rfl | (simp; done) | (simp [*]; done)), (by first | rfl | (simp; done) | (simp [*]; done)), H', ⟨by have := HK1.out; omega⟩, by repeat (first | exact Drawn0.refl _ | apply Drawn0.step)⟩

/-! ### carillonref01_take: function 43 -/
def carillonref01_take.f (k : Nat) (a0 : Int) (a1 : ByteArray) : Option (Int × Int × ByteArray × Int × Int) := (carillonref01_width.f a0).bind fun t249 => (if t249 > 0 then (if (a1.size : Int) < t249 then (some (0, 0, (⟨#[]⟩ : ByteArray), 0, 2)) else (if 0 ≤ t249 then (if t249 ≤ (a1.size : Int) then ((carillonref01_value.f k (a1.extract 0 (t249 : Int).toNat)).bind fun t250 => (some (a0, t250, (⟨#[]⟩ : ByteArray), t249, 0))) else (none)) else (none))) else (if (a1.size : Int) < 4 then (some (0, 0, (⟨#[]⟩ : ByteArray), 0, 2)) else (if 0 ≤ 4 then (if 4 ≤ (a1.size : Int) then ((carillonref01_value.f k (a1.extract 0 4)).bind fun t251 => (if t251 > 100000 then (some (0, 0, (⟨#[]⟩ : ByteArray), 0, 3)) else (if (IntKind.u64.wrap (wrap64 ((a1.size : Int) - 4))) < t251 then (some (0, 0, (⟨#[]⟩ : ByteArray), 0, 2)) else (if 4 ≤ (wrap64 (4 + (wrap64 (t251)))) then (if (wrap64 (4 + (wrap64 (t251)))) ≤ (a1.size : Int) then (some (a0, 0, a1.extract 4 ((wrap64 (4 + (wrap64 (t251)))) : Int).toNat, wrap64 (4 + (wrap64 (t251))), 0)) else (none)) else (none))))) else (none)) else (none))))
theorem carillonref01_take.mono : ∀ a0 a1 k, LeO (carillonref01_take.f k a0 a1) (carillonref01_take.f (k + 1) a0 a1) := by
 intro a0 a1 k
 unfold carillonref01_take.f
 repeat' first
   | (with_reducible exact carillonref01_value.mono _ _)
   | (with_reducible exact LeO.refl _)
   | (with_reducible exact LeO.none _)
   | (with_reducible refine LeO.ite ?_ ?_)
   | (with_reducible refine LeO.bind ?_ (fun _ => ?_))
   | exact carillonref01_value.mono _ _
   | exact LeO.none _
   | refine LeO.ite ?_ ?_
   | refine LeO.bind ?_ (fun _ => ?_)
set_option maxHeartbeats 8000000 in
set_option maxRecDepth 100000 in
theorem carillonref01_take.calls (k : Nat) (a0 : Int) (a1 : ByteArray) (r1 : Int) (r2 : Int) (r3 : ByteArray) (r4 : Int) (r5 : Int) (w : World) (h : carillonref01_take.f k a0 a1 = some (r1, r2, r3, r4, r5)) :
  Calls Tryd.prog 43 #[.int .i64 a0, .string a1] w fun e w' => e = .returned (.tuple #[.agg #[.int .i64 r1, .int .u64 r2, .string r3], .int .i64 r4, .int .i64 r5]) ∧ Below w.heap.size w w' := by
 have hu50 := Tryd.underlying50
 have HB := Aside0.mk (Below.refl w.heap.size w)
 have H : ((carillonref01_width.f a0).bind fun t249 => (if t249 > 0 then (if (a1.size : Int) < t249 then (some (0, 0, (⟨#[]⟩ : ByteArray), 0, 2)) else (if 0 ≤ t249 then (if t249 ≤ (a1.size : Int) then ((carillonref01_value.f k (a1.extract 0 (t249 : Int).toNat)).bind fun t250 => (some (a0, t250, (⟨#[]⟩ : ByteArray), t249, 0))) else (none)) else (none))) else (if (a1.size : Int) < 4 then (some (0, 0, (⟨#[]⟩ : ByteArray), 0, 2)) else (if 0 ≤ 4 then (if 4 ≤ (a1.size : Int) then ((carillonref01_value.f k (a1.extract 0 4)).bind fun t251 => (if t251 > 100000 then (some (0, 0, (⟨#[]⟩ : ByteArray), 0, 3)) else (if (IntKind.u64.wrap (wrap64 ((a1.size : Int) - 4))) < t251 then (some (0, 0, (⟨#[]⟩ : ByteArray), 0, 2)) else (if 4 ≤ (wrap64 (4 + (wrap64 (t251)))) then (if (wrap64 (4 + (wrap64 (t251)))) ≤ (a1.size : Int) then (some (a0, 0, a1.extract 4 ((wrap64 (4 + (wrap64 (t251)))) : Int).toNat, wrap64 (4 + (wrap64 (t251))), 0)) else (none)) else (none))))) else (none)) else (none))))) = some (r1, r2, r3, r4, r5) := h
 clear h
 replace H := Option.bind_eq_some_iff.mp H
 obtain ⟨t249, A30, H⟩ := H
 replace H : (if t249 > 0 then (if (a1.size : Int) < t249 then (some (0, 0, (⟨#[]⟩ : ByteArray), 0, 2)) else (if 0 ≤ t249 then (if t249 ≤ (a1.size : Int) then ((carillonref01_value.f k (a1.extract 0 (t249 : Int).toNat)).bind fun t250 => (some (a0, t250, (⟨#[]⟩ : ByteArray), t249, 0))) else (none)) else (none))) else (if (a1.size : Int) < 4 then (some (0, 0, (⟨#[]⟩ : ByteArray), 0, 2)) else (if 0 ≤ 4 then (if 4 ≤ (a1.size : Int) then ((carillonref01_value.f k (a1.extract 0 4)).bind fun t251 => (if t251 > 100000 then (some (0, 0, (⟨#[]⟩ : ByteArray), 0, 3)) else (if (IntKind.u64.wrap (wrap64 ((a1.size : Int) - 4))) < t251 then (some (0, 0, (⟨#[]⟩ : ByteArray), 0, 2)) else (if 4 ≤ (wrap64 (4 + (wrap64 (t251)))) then (if (wrap64 (4 + (wrap64 (t251)))) ≤ (a1.size : Int) then (some (a0, 0, a1.extract 4 ((wrap64 (4 + (wrap64 (t251)))) : Int).toNat, wrap64 (4 + (wrap64 (t251))), 0)) else (none)) else (none))))) else (none)) else (none)))) = some (r1, r2, r3, r4, r5) := H
 have A3 := Aside0.mk A30
 clear A30
 by_cases c4 : t249 > 0
 ·rw [if_pos c4] at H
  have c4b0 : decide (0 < t249) = true := decide_eq_true c4
  clear c4
  by_cases c5 : (a1.size : Int) < t249
  ·rw [if_pos c5] at H
   have c5b0 : decide ((a1.size : Int) < t249) = true := decide_eq_true c5
   clear c5
   simp only [Option.some.injEq, Prod.mk.injEq] at H
   obtain ⟨rfl, rfl, rfl, rfl, rfl⟩ := H
   go_enter Tryd.func43, Tryd.ntmps43
   go_wp2_with (first | ((with_reducible refine gate_dst (N := 4) rfl ?_); refine box_event ?hg (N := 4) ?hd (cs := #[.int .i64 0, .int .u64 0, .string (⟨#[]⟩ : ByteArray)]) (t := 50) ?hr ?_; (case hd => rfl); (case hg => rfl); (case hr => first | (go_simp; done) | (go_simp; rfl)); intro ab hg w6 hbox hb; have n0_ := Aside0.mk (below_step bw hb); have n1_ := Aside0.mk (hbox); have n2_ := Aside0.mk ((g1 hg bw : w.heap.size ≤ ab)); have n3_ := Aside0.mk ((g1 hg bw : w.heap.size ≤ ab)); clear HB; have HB := n0_; have aa := n1_; have ac := n2_; have ad := n3_; clear n0_ n1_ n2_ n3_; clear hb hbox hg) | ((with_reducible refine gate_callee (f := 44) rfl ?_); refine goesL_ (some 10) rfl rfl Tryd.func44 (by kernel_rfl) rfl #[.int .i64 a0] rfl am ?_; (with_reducible refine (carillonref01_width.calls a0 t249 _ A3.out).mono ?_); rintro e w' ⟨rfl, ⟨nd, rfl⟩⟩; refine ⟨_, rfl, ?_⟩; (try (rw [drewN_self w6]; generalize hq_ : World.drewN w6 _ = w6; have n0_ : Aside0 (w6.heap[ab]? = some (.cells #[.int .i64 0, .int .u64 0, .string (⟨#[]⟩ : ByteArray)] 50 (0, 0))) := ⟨by rw [← hq_]; exact (bk aa.out)⟩; have n1_ : Aside0 (Below w.heap.size w w6) := ⟨by rw [← hq_]; exact bw⟩; clear aa HB hq_; have aa := n0_; have HB := n1_; clear n0_ n1_)); obtain ⟨hcz7_0, hcz7_1, hcz7_2, hfz7_0, hfz7_1, hfz7_2⟩ := bx3 aa.out))
   refine bodyPost_ret (results_ctt rfl _ _ ab 50 #[.int .i64 0, .int .u64 0, .string (⟨#[]⟩ : ByteArray)] (0, 0) _ rfl (by (with_reducible repeat (first | refine blk_drewN ?_ _ | refine blk_drew ?_ | refine blk_alloc ?_ _)); refine blk_put (cs := #[.int .i64 0, .int .u64 0, .string (⟨#[]⟩ : ByteArray)]) ?_ 2 _ rfl; (with_reducible repeat (first | refine blk_drewN ?_ _ | refine blk_drew ?_ | refine blk_alloc ?_ _)); refine blk_put (cs := #[.int .i64 0, .int .u64 0, .string (⟨#[]⟩ : ByteArray)]) ?_ 1 _ rfl; (with_reducible repeat (first | refine blk_drewN ?_ _ | refine blk_drew ?_ | refine blk_alloc ?_ _)); refine blk_put (cs := #[.int .i64 0, .int .u64 0, .string (⟨#[]⟩ : ByteArray)]) ?_ 0 _ rfl; (with_reducible repeat (first | refine blk_drewN ?_ _ | refine blk_drew ?_ | refine blk_alloc ?_ _)); exact aa.out) Tryd.underlying50 rfl (by kernel_rfl)) rfl ?_
   exact ⟨er, bw⟩
  rw [if_neg c5] at H
  have c5b0 : decide ((a1.size : Int) < t249) = false := decide_eq_false c5
  clear c5
  by_cases c8 : 0 ≤ t249; rotate_left
  ·rw [if_neg c8] at H
   exact absurd H (by simp)
  rw [if_pos c8] at H
  have c8b0 := eq_true c8
  have c8b1 : decide (0 ≤ t249) = true := decide_eq_true c8
  clear c8
  by_cases c9 : t249 ≤ (a1.size : Int); rotate_left
  ·rw [if_neg c9] at H
   exact absurd H (by simp)
  rw [if_pos c9] at H
  have c9b0 := eq_true c9
  have c9b1 : decide (t249 ≤ (a1.size : Int)) = true := decide_eq_true c9
  clear c9
  replace H := Option.bind_eq_some_iff.mp H
  obtain ⟨t250, A100, H⟩ := H
  replace H : (some (a0, t250, (⟨#[]⟩ : ByteArray), t249, 0)) = some (r1, r2, r3, r4, r5) := H
  have A10 := Aside0.mk A100
  clear A100
  simp only [Option.some.injEq, Prod.mk.injEq] at H
  obtain ⟨rfl, rfl, rfl, rfl, rfl⟩ := H
  go_enter Tryd.func43, Tryd.ntmps43
  go_wp2_with (first | ((with_reducible refine gate_dst (N := 4) rfl ?_); refine box_event ?hg (N := 4) ?hd (cs := #[.int .i64 0, .int .u64 0, .string (⟨#[]⟩ : ByteArray)]) (t := 50) ?hr ?_; (case hd => rfl); (case hg => rfl); (case hr => first | (go_simp; done) | (go_simp; rfl)); intro ab hg w11 hbox hb; have n0_ := Aside0.mk (below_step bw hb); have n1_ := Aside0.mk (hbox); have n2_ := Aside0.mk ((g1 hg bw : w.heap.size ≤ ab)); have n3_ := Aside0.mk ((g1 hg bw : w.heap.size ≤ ab)); clear HB; have HB := n0_; have aa := n1_; have ac := n2_; have ad := n3_; clear n0_ n1_ n2_ n3_; clear hb hbox hg) | ((with_reducible refine gate_callee (f := 44) rfl ?_); refine goesL_ (some 10) rfl rfl Tryd.func44 (by kernel_rfl) rfl #[.int .i64 a0] rfl am ?_; (with_reducible refine (carillonref01_width.calls a0 t249 _ A3.out).mono ?_); rintro e w' ⟨rfl, ⟨nd, rfl⟩⟩; refine ⟨_, rfl, ?_⟩; (try (rw [drewN_self w11]; generalize hq_ : World.drewN w11 _ = w11; have n0_ : Aside0 (w11.heap[ab]? = some (.cells #[.int .i64 0, .int .u64 0, .string (⟨#[]⟩ : ByteArray)] 50 (0, 0))) := ⟨by rw [← hq_]; exact (bk aa.out)⟩; have n1_ : Aside0 (Below w.heap.size w w11) := ⟨by rw [← hq_]; exact bw⟩; clear aa HB hq_; have aa := n0_; have HB := n1_; clear n0_ n1_))) | ((with_reducible refine gate_callee (f := 50) rfl ?_); refine goesL_ (some 22) rfl rfl Tryd.func50 (by kernel_rfl) rfl #[.string (a1.extract 0 (t249 : Int).toNat)] rfl am ?_; (with_reducible refine (carillonref01_value.calls k (a1.extract 0 (t249 : Int).toNat) t250 _ A10.out).mono ?_); rintro e w' ⟨rfl, ⟨nd, rfl⟩⟩; refine ⟨_, rfl, ?_⟩; (try (rw [drewN_self w11]; generalize hq_ : World.drewN w11 _ = w11; have n0_ : Aside0 (w11.heap[ab]? = some (.cells #[.int .i64 0, .int .u64 0, .string (⟨#[]⟩ : ByteArray)] 50 (0, 0))) := ⟨by rw [← hq_]; exact (bk aa.out)⟩; have n1_ : Aside0 (Below w.heap.size w w11) := ⟨by rw [← hq_]; exact bw⟩; clear aa HB hq_; have aa := n0_; have HB := n1_; clear n0_ n1_)); obtain ⟨hcz12_0, hcz12_1, hcz12_2, hfz12_0, hfz12_1, hfz12_2⟩ := bx3 aa.out))
  refine bodyPost_ret (results_ctt rfl _ _ ab 50 #[.int .i64 a0, .int .u64 t250, .string (⟨#[]⟩ : ByteArray)] (0, 0) _ rfl (by (with_reducible repeat (first | refine blk_drewN ?_ _ | refine blk_drew ?_ | refine blk_alloc ?_ _)); refine blk_put (cs := #[.int .i64 a0, .int .u64 t250, .string (⟨#[]⟩ : ByteArray)]) ?_ 2 _ rfl; (with_reducible repeat (first | refine blk_drewN ?_ _ | refine blk_drew ?_ | refine blk_alloc ?_ _)); refine blk_put (cs := #[.int .i64 a0, .int .u64 0, .string (⟨#[]⟩ : ByteArray)]) ?_ 1 _ rfl; (with_reducible repeat (first | refine blk_drewN ?_ _ | refine blk_drew ?_ | refine blk_alloc ?_ _)); refine blk_put (cs := #[.int .i64 0, .int .u64 0, .string (⟨#[]⟩ : ByteArray)]) ?_ 0 _ rfl; (with_reducible repeat (first | refine blk_drewN ?_ _ | refine blk_drew ?_ | refine blk_alloc ?_ _)); exact aa.out) Tryd.underlying50 rfl (by kernel_rfl)) rfl ?_
  exact ⟨er, bw⟩
 rw [if_neg c4] at H
 have c4b0 : decide (0 < t249) = false := decide_eq_false c4
 clear c4
 by_cases c13 : (a1.size : Int) < 4
 ·rw [if_pos c13] at H
  have c13b0 : decide ((a1.size : Int) < 4) = true := decide_eq_true c13
  have c13b1 : decide (a1.size < 4) = true := decide_eq_true (by omega)
  clear c13
  simp only [Option.some.injEq, Prod.mk.injEq] at H
  obtain ⟨rfl, rfl, rfl, rfl, rfl⟩ := H
  go_enter Tryd.func43, Tryd.ntmps43
  go_wp2_with (first | ((with_reducible refine gate_dst (N := 4) rfl ?_); refine box_event ?hg (N := 4) ?hd (cs := #[.int .i64 0, .int .u64 0, .string (⟨#[]⟩ : ByteArray)]) (t := 50) ?hr ?_; (case hd => rfl); (case hg => rfl); (case hr => first | (go_simp; done) | (go_simp; rfl)); intro ab hg w14 hbox hb; have n0_ := Aside0.mk (below_step bw hb); have n1_ := Aside0.mk (hbox); have n2_ := Aside0.mk ((g1 hg bw : w.heap.size ≤ ab)); have n3_ := Aside0.mk ((g1 hg bw : w.heap.size ≤ ab)); clear HB; have HB := n0_; have aa := n1_; have ac := n2_; have ad := n3_; clear n0_ n1_ n2_ n3_; clear hb hbox hg) | ((with_reducible refine gate_callee (f := 44) rfl ?_); refine goesL_ (some 10) rfl rfl Tryd.func44 (by kernel_rfl) rfl #[.int .i64 a0] rfl am ?_; (with_reducible refine (carillonref01_width.calls a0 t249 _ A3.out).mono ?_); rintro e w' ⟨rfl, ⟨nd, rfl⟩⟩; refine ⟨_, rfl, ?_⟩; (try (rw [drewN_self w14]; generalize hq_ : World.drewN w14 _ = w14; have n0_ : Aside0 (w14.heap[ab]? = some (.cells #[.int .i64 0, .int .u64 0, .string (⟨#[]⟩ : ByteArray)] 50 (0, 0))) := ⟨by rw [← hq_]; exact (bk aa.out)⟩; have n1_ : Aside0 (Below w.heap.size w w14) := ⟨by rw [← hq_]; exact bw⟩; clear aa HB hq_; have aa := n0_; have HB := n1_; clear n0_ n1_)); obtain ⟨hcz15_0, hcz15_1, hcz15_2, hfz15_0, hfz15_1, hfz15_2⟩ := bx3 aa.out))
  refine bodyPost_ret (results_ctt rfl _ _ ab 50 #[.int .i64 0, .int .u64 0, .string (⟨#[]⟩ : ByteArray)] (0, 0) _ rfl (by (with_reducible repeat (first | refine blk_drewN ?_ _ | refine blk_drew ?_ | refine blk_alloc ?_ _)); refine blk_put (cs := #[.int .i64 0, .int .u64 0, .string (⟨#[]⟩ : ByteArray)]) ?_ 2 _ rfl; (with_reducible repeat (first | refine blk_drewN ?_ _ | refine blk_drew ?_ | refine blk_alloc ?_ _)); refine blk_put (cs := #[.int .i64 0, .int .u64 0, .string (⟨#[]⟩ : ByteArray)]) ?_ 1 _ rfl; (with_reducible repeat (first | refine blk_drewN ?_ _ | refine blk_drew ?_ | refine blk_alloc ?_ _)); refine blk_put (cs := #[.int .i64 0, .int .u64 0, .string (⟨#[]⟩ : ByteArray)]) ?_ 0 _ rfl; (with_reducible repeat (first | refine blk_drewN ?_ _ | refine blk_drew ?_ | refine blk_alloc ?_ _)); exact aa.out) Tryd.underlying50 rfl (by kernel_rfl)) rfl ?_
  exact ⟨er, bw⟩
 rw [if_neg c13] at H
 have c13b0 : decide ((a1.size : Int) < 4) = false := decide_eq_false c13
 have c13b1 : decide (a1.size < 4) = false := decide_eq_false (by omega)
 clear c13
 by_cases c16 : 0 ≤ 4; rotate_left
 ·rw [if_neg c16] at H
  exact absurd H (by simp)
 rw [if_pos c16] at H
 have c16b0 := eq_true c16
 have c16b1 : decide (0 ≤ 4) = true := decide_eq_true c16
 clear c16
 by_cases c17 : 4 ≤ (a1.size : Int); rotate_left
 ·rw [if_neg c17] at H
  exact absurd H (by simp)
 rw [if_pos c17] at H
 have c17b0 := eq_true c17
 have c17b1 : decide (4 ≤ (a1.size : Int)) = true := decide_eq_true c17
 clear c17
 replace H := Option.bind_eq_some_iff.mp H
 obtain ⟨t251, A180, H⟩ := H
 replace H : (if t251 > 100000 then (some (0, 0, (⟨#[]⟩ : ByteArray), 0, 3)) else (if (IntKind.u64.wrap (wrap64 ((a1.size : Int) - 4))) < t251 then (some (0, 0, (⟨#[]⟩ : ByteArray), 0, 2)) else (if 4 ≤ (wrap64 (4 + (wrap64 (t251)))) then (if (wrap64 (4 + (wrap64 (t251)))) ≤ (a1.size : Int) then (some (a0, 0, a1.extract 4 ((wrap64 (4 + (wrap64 (t251)))) : Int).toNat, wrap64 (4 + (wrap64 (t251))), 0)) else (none)) else (none)))) = some (r1, r2, r3, r4, r5) := H
 have A18 := Aside0.mk A180
 clear A180
 by_cases c19 : t251 > 100000
 ·rw [if_pos c19] at H
  have c19b0 : decide (100000 < t251) = true := decide_eq_true c19
  clear c19
  simp only [Option.some.injEq, Prod.mk.injEq] at H
  obtain ⟨rfl, rfl, rfl, rfl, rfl⟩ := H
  go_enter Tryd.func43, Tryd.ntmps43
  go_wp2_with (first | ((with_reducible refine gate_dst (N := 4) rfl ?_); refine box_event ?hg (N := 4) ?hd (cs := #[.int .i64 0, .int .u64 0, .string (⟨#[]⟩ : ByteArray)]) (t := 50) ?hr ?_; (case hd => rfl); (case hg => rfl); (case hr => first | (go_simp; done) | (go_simp; rfl)); intro ab hg w20 hbox hb; have n0_ := Aside0.mk (below_step bw hb); have n1_ := Aside0.mk (hbox); have n2_ := Aside0.mk ((g1 hg bw : w.heap.size ≤ ab)); have n3_ := Aside0.mk ((g1 hg bw : w.heap.size ≤ ab)); clear HB; have HB := n0_; have aa := n1_; have ac := n2_; have ad := n3_; clear n0_ n1_ n2_ n3_; clear hb hbox hg) | ((with_reducible refine gate_callee (f := 44) rfl ?_); refine goesL_ (some 10) rfl rfl Tryd.func44 (by kernel_rfl) rfl #[.int .i64 a0] rfl am ?_; (with_reducible refine (carillonref01_width.calls a0 t249 _ A3.out).mono ?_); rintro e w' ⟨rfl, ⟨nd, rfl⟩⟩; refine ⟨_, rfl, ?_⟩; (try (rw [drewN_self w20]; generalize hq_ : World.drewN w20 _ = w20; have n0_ : Aside0 (w20.heap[ab]? = some (.cells #[.int .i64 0, .int .u64 0, .string (⟨#[]⟩ : ByteArray)] 50 (0, 0))) := ⟨by rw [← hq_]; exact (bk aa.out)⟩; have n1_ : Aside0 (Below w.heap.size w w20) := ⟨by rw [← hq_]; exact bw⟩; clear aa HB hq_; have aa := n0_; have HB := n1_; clear n0_ n1_))) | ((with_reducible refine gate_callee (f := 50) rfl ?_); refine goesL_ (some 31) rfl rfl Tryd.func50 (by kernel_rfl) rfl #[.string (a1.extract 0 4)] rfl am ?_; (with_reducible refine (carillonref01_value.calls k (a1.extract 0 4) t251 _ A18.out).mono ?_); rintro e w' ⟨rfl, ⟨nd, rfl⟩⟩; refine ⟨_, rfl, ?_⟩; (try (rw [drewN_self w20]; generalize hq_ : World.drewN w20 _ = w20; have n0_ : Aside0 (w20.heap[ab]? = some (.cells #[.int .i64 0, .int .u64 0, .string (⟨#[]⟩ : ByteArray)] 50 (0, 0))) := ⟨by rw [← hq_]; exact (bk aa.out)⟩; have n1_ : Aside0 (Below w.heap.size w w20) := ⟨by rw [← hq_]; exact bw⟩; clear aa HB hq_; have aa := n0_; have HB := n1_; clear n0_ n1_)); obtain ⟨hcz21_0, hcz21_1, hcz21_2, hfz21_0, hfz21_1, hfz21_2⟩ := bx3 aa.out))
  refine bodyPost_ret (results_ctt rfl _ _ ab 50 #[.int .i64 0, .int .u64 0, .string (⟨#[]⟩ : ByteArray)] (0, 0) _ rfl (by (with_reducible repeat (first | refine blk_drewN ?_ _ | refine blk_drew ?_ | refine blk_alloc ?_ _)); refine blk_put (cs := #[.int .i64 0, .int .u64 0, .string (⟨#[]⟩ : ByteArray)]) ?_ 2 _ rfl; (with_reducible repeat (first | refine blk_drewN ?_ _ | refine blk_drew ?_ | refine blk_alloc ?_ _)); refine blk_put (cs := #[.int .i64 0, .int .u64 0, .string (⟨#[]⟩ : ByteArray)]) ?_ 1 _ rfl; (with_reducible repeat (first | refine blk_drewN ?_ _ | refine blk_drew ?_ | refine blk_alloc ?_ _)); refine blk_put (cs := #[.int .i64 0, .int .u64 0, .string (⟨#[]⟩ : ByteArray)]) ?_ 0 _ rfl; (with_reducible repeat (first | refine blk_drewN ?_ _ | refine blk_drew ?_ | refine blk_alloc ?_ _)); exact aa.out) Tryd.underlying50 rfl (by kernel_rfl)) rfl ?_
  exact ⟨er, bw⟩
 rw [if_neg c19] at H
 have c19b0 : decide (100000 < t251) = false := decide_eq_false c19
 clear c19
 by_cases c22 : (IntKind.u64.wrap (wrap64 ((a1.size : Int) - 4))) < t251
 ·rw [if_pos c22] at H
  have c22b0 : decide ((IntKind.u64.wrap (wrap64 ((a1.size : Int) - 4))) < t251) = true := decide_eq_true c22
  clear c22
  simp only [Option.some.injEq, Prod.mk.injEq] at H
  obtain ⟨rfl, rfl, rfl, rfl, rfl⟩ := H
  go_enter Tryd.func43, Tryd.ntmps43
  go_wp2_with (first | ((with_reducible refine gate_dst (N := 4) rfl ?_); refine box_event ?hg (N := 4) ?hd (cs := #[.int .i64 0, .int .u64 0, .string (⟨#[]⟩ : ByteArray)]) (t := 50) ?hr ?_; (case hd => rfl); (case hg => rfl); (case hr => first | (go_simp; done) | (go_simp; rfl)); intro ab hg w23 hbox hb; have n0_ := Aside0.mk (below_step bw hb); have n1_ := Aside0.mk (hbox); have n2_ := Aside0.mk ((g1 hg bw : w.heap.size ≤ ab)); have n3_ := Aside0.mk ((g1 hg bw : w.heap.size ≤ ab)); clear HB; have HB := n0_; have aa := n1_; have ac := n2_; have ad := n3_; clear n0_ n1_ n2_ n3_; clear hb hbox hg) | ((with_reducible refine gate_callee (f := 44) rfl ?_); refine goesL_ (some 10) rfl rfl Tryd.func44 (by kernel_rfl) rfl #[.int .i64 a0] rfl am ?_; (with_reducible refine (carillonref01_width.calls a0 t249 _ A3.out).mono ?_); rintro e w' ⟨rfl, ⟨nd, rfl⟩⟩; refine ⟨_, rfl, ?_⟩; (try (rw [drewN_self w23]; generalize hq_ : World.drewN w23 _ = w23; have n0_ : Aside0 (w23.heap[ab]? = some (.cells #[.int .i64 0, .int .u64 0, .string (⟨#[]⟩ : ByteArray)] 50 (0, 0))) := ⟨by rw [← hq_]; exact (bk aa.out)⟩; have n1_ : Aside0 (Below w.heap.size w w23) := ⟨by rw [← hq_]; exact bw⟩; clear aa HB hq_; have aa := n0_; have HB := n1_; clear n0_ n1_))) | ((with_reducible refine gate_callee (f := 50) rfl ?_); refine goesL_ (some 31) rfl rfl Tryd.func50 (by kernel_rfl) rfl #[.string (a1.extract 0 4)] rfl am ?_; (with_reducible refine (carillonref01_value.calls k (a1.extract 0 4) t251 _ A18.out).mono ?_); rintro e w' ⟨rfl, ⟨nd, rfl⟩⟩; refine ⟨_, rfl, ?_⟩; (try (rw [drewN_self w23]; generalize hq_ : World.drewN w23 _ = w23; have n0_ : Aside0 (w23.heap[ab]? = some (.cells #[.int .i64 0, .int .u64 0, .string (⟨#[]⟩ : ByteArray)] 50 (0, 0))) := ⟨by rw [← hq_]; exact (bk aa.out)⟩; have n1_ : Aside0 (Below w.heap.size w w23) := ⟨by rw [← hq_]; exact bw⟩; clear aa HB hq_; have aa := n0_; have HB := n1_; clear n0_ n1_)); obtain ⟨hcz24_0, hcz24_1, hcz24_2, hfz24_0, hfz24_1, hfz24_2⟩ := bx3 aa.out))
  refine bodyPost_ret (results_ctt rfl _ _ ab 50 #[.int .i64 0, .int .u64 0, .string (⟨#[]⟩ : ByteArray)] (0, 0) _ rfl (by (with_reducible repeat (first | refine blk_drewN ?_ _ | refine blk_drew ?_ | refine blk_alloc ?_ _)); refine blk_put (cs := #[.int .i64 0, .int .u64 0, .string (⟨#[]⟩ : ByteArray)]) ?_ 2 _ rfl; (with_reducible repeat (first | refine blk_drewN ?_ _ | refine blk_drew ?_ | refine blk_alloc ?_ _)); refine blk_put (cs := #[.int .i64 0, .int .u64 0, .string (⟨#[]⟩ : ByteArray)]) ?_ 1 _ rfl; (with_reducible repeat (first | refine blk_drewN ?_ _ | refine blk_drew ?_ | refine blk_alloc ?_ _)); refine blk_put (cs := #[.int .i64 0, .int .u64 0, .string (⟨#[]⟩ : ByteArray)]) ?_ 0 _ rfl; (with_reducible repeat (first | refine blk_drewN ?_ _ | refine blk_drew ?_ | refine blk_alloc ?_ _)); exact aa.out) Tryd.underlying50 rfl (by kernel_rfl)) rfl ?_
  exact ⟨er, bw⟩
 rw [if_neg c22] at H
 have c22b0 : decide ((IntKind.u64.wrap (wrap64 ((a1.size : Int) - 4))) < t251) = false := decide_eq_false c22
 clear c22
 by_cases c25 : 4 ≤ (wrap64 (4 + (wrap64 (t251)))); rotate_left
 ·rw [if_neg c25] at H
  exact absurd H (by simp)
 rw [if_pos c25] at H
 have c25b0 := eq_true c25
 have c25b1 : decide (4 ≤ (wrap64 (4 + (wrap64 (t251))))) = true := decide_eq_true c25
 by_cases c26 : (wrap64 (4 + (wrap64 (t251)))) ≤ (a1.size : Int); rotate_left
 ·rw [if_neg c26] at H
  exact absurd H (by simp)
 rw [if_pos c26] at H
 have c26b0 := eq_true c26
 have c26b1 : decide ((wrap64 (4 + (wrap64 (t251)))) ≤ (a1.size : Int)) = true := decide_eq_true c26
 simp only [Option.some.injEq, Prod.mk.injEq] at H
 obtain ⟨rfl, rfl, rfl, rfl, rfl⟩ := H
 go_enter Tryd.func43, Tryd.ntmps43
 go_wp2_with (first | ((with_reducible refine gate_dst (N := 4) rfl ?_); refine box_event ?hg (N := 4) ?hd (cs := #[.int .i64 0, .int .u64 0, .string (⟨#[]⟩ : ByteArray)]) (t := 50) ?hr ?_; (case hd => rfl); (case hg => rfl); (case hr => first | (go_simp; done) | (go_simp; rfl)); intro ab hg w27 hbox hb; have n0_ := Aside0.mk (below_step bw hb); have n1_ := Aside0.mk (hbox); have n2_ := Aside0.mk ((g1 hg bw : w.heap.size ≤ ab)); have n3_ := Aside0.mk ((g1 hg bw : w.heap.size ≤ ab)); clear HB; have HB := n0_; have aa := n1_; have ac := n2_; have ad := n3_; clear n0_ n1_ n2_ n3_; clear hb hbox hg) | ((with_reducible refine gate_callee (f := 44) rfl ?_); refine goesL_ (some 10) rfl rfl Tryd.func44 (by kernel_rfl) rfl #[.int .i64 a0] rfl am ?_; (with_reducible refine (carillonref01_width.calls a0 t249 _ A3.out).mono ?_); rintro e w' ⟨rfl, ⟨nd, rfl⟩⟩; refine ⟨_, rfl, ?_⟩; (try (rw [drewN_self w27]; generalize hq_ : World.drewN w27 _ = w27; have n0_ : Aside0 (w27.heap[ab]? = some (.cells #[.int .i64 0, .int .u64 0, .string (⟨#[]⟩ : ByteArray)] 50 (0, 0))) := ⟨by rw [← hq_]; exact (bk aa.out)⟩; have n1_ : Aside0 (Below w.heap.size w w27) := ⟨by rw [← hq_]; exact bw⟩; clear aa HB hq_; have aa := n0_; have HB := n1_; clear n0_ n1_))) | ((with_reducible refine gate_callee (f := 50) rfl ?_); refine goesL_ (some 31) rfl rfl Tryd.func50 (by kernel_rfl) rfl #[.string (a1.extract 0 4)] rfl am ?_; (with_reducible refine (carillonref01_value.calls k (a1.extract 0 4) t251 _ A18.out).mono ?_); rintro e w' ⟨rfl, ⟨nd, rfl⟩⟩; refine ⟨_, rfl, ?_⟩; (try (rw [drewN_self w27]; generalize hq_ : World.drewN w27 _ = w27; have n0_ : Aside0 (w27.heap[ab]? = some (.cells #[.int .i64 0, .int .u64 0, .string (⟨#[]⟩ : ByteArray)] 50 (0, 0))) := ⟨by rw [← hq_]; exact (bk aa.out)⟩; have n1_ : Aside0 (Below w.heap.size w w27) := ⟨by rw [← hq_]; exact bw⟩; clear aa HB hq_; have aa := n0_; have HB := n1_; clear n0_ n1_)); obtain ⟨hcz28_0, hcz28_1, hcz28_2, hfz28_0, hfz28_1, hfz28_2⟩ := bx3 aa.out))
 refine bodyPost_ret (results_ctt rfl _ _ ab 50 #[.int .i64 a0, .int .u64 0, .string (a1.extract 4 ((wrap64 (4 + (wrap64 (t251)))) : Int).toNat)] (0, 0) _ rfl (by (with_reducible repeat (first | refine blk_drewN ?_ _ | refine blk_drew ?_ | refine blk_alloc ?_ _)); refine blk_put (cs := #[.int .i64 a0, .int .u64 0, .string (⟨#[]⟩ : ByteArray)]) ?_ 2 _ rfl; (with_reducible repeat (first | refine blk_drewN ?_ _ | refine blk_drew ?_ | refine blk_alloc ?_ _)); refine blk_put (cs := #[.int .i64 a0, .int .u64 0, .string (⟨#[]⟩ : ByteArray)]) ?_ 1 _ rfl; (with_reducible repeat (first | refine blk_drewN ?_ _ | refine blk_drew ?_ | refine blk_alloc ?_ _)); refine blk_put (cs := #[.int .i64 0, .int .u64 0, .string (⟨#[]⟩ : ByteArray)]) ?_ 0 _ rfl; (with_reducible repeat (first | refine blk_drewN ?_ _ | refine blk_drew ?_ | refine blk_alloc ?_ _)); exact aa.out) Tryd.underlying50 rfl (by kernel_rfl)) rfl ?_
 exact ⟨er, bw⟩

end Go.Proofs.YtdpogggajdfedaaDoor.P
