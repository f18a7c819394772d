-- Printed by this session's program wip/xp.py (a turned copy of the kit's printer): functions, their contracts.
import Derived.Test.YtmjgifhgodgghaaDoorPx0
import Derived.Test.YtmjgifhgodgghaaDoorPx11
namespace Go.Proofs.YtmjgifhgodgghaaDoor.P
open Go.RowKit Go.Proofs.YtmjgifhgodgghaaDoorW.PrintWords Go.Proofs.YtmjgifhgodgghaaDoorW.PrintLast Go.Proofs.YtmjgifhgodgghaaDoorW.PrintMore
attribute [local go_sem] max2_int min2_int max_two min_two max_three min_three max_four min_four   -- for this text's walks alone
set_option linter.unusedVariables false
set_option linter.unusedSimpArgs false

/-! ### carillonref02_value: function 47 -/
def carillonref02_value.f (a0 : ByteArray) : Option (Int) := if 0 < (a0.size : Int) then (if 1 < (a0.size : Int) then (if 2 < (a0.size : Int) then (if 3 < (a0.size : Int) then (some (Go.bits .or .u32 (Go.bits .or .u32 (Go.bits .or .u32 ((((bt a0 0) % 4294967296) * 16777216) % 4294967296) ((((bt a0 1) % 4294967296) * 65536) % 4294967296)) ((((bt a0 2) % 4294967296) * 256) % 4294967296)) ((bt a0 3) % 4294967296))) else (none)) else (none)) else (none)) else (none)
set_option maxHeartbeats 8000000 in
set_option maxRecDepth 100000 in
theorem carillonref02_value.calls (a0 : ByteArray) (r : Int) (w : World) (h : carillonref02_value.f a0 = some r) :
  Calls Tryd.prog 47 #[.string a0] w fun e w' => e = .returned (.int .u32 r) ∧ Drawn0 w w' := by
 have H : (if 0 < (a0.size : Int) then (if 1 < (a0.size : Int) then (if 2 < (a0.size : Int) then (if 3 < (a0.size : Int) then (some (Go.bits .or .u32 (Go.bits .or .u32 (Go.bits .or .u32 ((((bt a0 0) % 4294967296) * 16777216) % 4294967296) ((((bt a0 1) % 4294967296) * 65536) % 4294967296)) ((((bt a0 2) % 4294967296) * 256) % 4294967296)) ((bt a0 3) % 4294967296))) else (none)) else (none)) else (none)) else (none)) = some r := h
 clear h
 by_cases c2 : 0 < (a0.size : Int)
 ·rw [if_pos c2] at H
  have c2b0 : decide (0 < (a0.size : Int)) = true := decide_eq_true c2
  have c2b1 : decide (0 < a0.size) = true := decide_eq_true (by omega)
  clear c2
  by_cases c4 : 1 < (a0.size : Int)
  ·rw [if_pos c4] at H
   have c4b0 : decide (1 < (a0.size : Int)) = true := decide_eq_true c4
   have c4b1 : decide (1 < a0.size) = true := decide_eq_true (by omega)
   clear c4
   by_cases c6 : 2 < (a0.size : Int)
   ·rw [if_pos c6] at H
    have c6b0 : decide (2 < (a0.size : Int)) = true := decide_eq_true c6
    have c6b1 : decide (2 < a0.size) = true := decide_eq_true (by omega)
    clear c6
    by_cases c8 : 3 < (a0.size : Int)
    ·rw [if_pos c8] at H
     have c8b0 : decide (3 < (a0.size : Int)) = true := decide_eq_true c8
     have c8b1 : decide (3 < a0.size) = true := decide_eq_true (by omega)
     clear c8
     obtain rfl := Option.some.inj H
     have p3 : 0 ≤ (0 : Int) := (by omega)
     have q3 : 0 < a0.size := (by have : (0 : Int) < (a0.size : Int) := of_decide_eq_true (by first | (with_reducible assumption) | assumption); omega)
     have hx3 : ∀ h : 0 < a0.size, ((a0[0]'h).toNat : Int) = bt a0 0 := bt_at a0 0
     clear p3
     have qi3 : (0 < (a0.size : Int)) = True := eq_true (of_decide_eq_true (by first | (with_reducible assumption) | assumption))
     replace q3 := eq_true q3
     have p5 : 0 ≤ (1 : Int) := (by omega)
     have q5 : 1 < a0.size := (by have : (1 : Int) < (a0.size : Int) := of_decide_eq_true (by first | (with_reducible assumption) | assumption); omega)
     have hx5 : ∀ h : 1 < a0.size, ((a0[1]'h).toNat : Int) = bt a0 1 := bt_at a0 1
     clear p5
     have qi5 : (1 < (a0.size : Int)) = True := eq_true (of_decide_eq_true (by first | (with_reducible assumption) | assumption))
     replace q5 := eq_true q5
     have p7 : 0 ≤ (2 : Int) := (by omega)
     have q7 : 2 < a0.size := (by have : (2 : Int) < (a0.size : Int) := of_decide_eq_true (by first | (with_reducible assumption) | assumption); omega)
     have hx7 : ∀ h : 2 < a0.size, ((a0[2]'h).toNat : Int) = bt a0 2 := bt_at a0 2
     clear p7
     have qi7 : (2 < (a0.size : Int)) = True := eq_true (of_decide_eq_true (by first | (with_reducible assumption) | assumption))
     replace q7 := eq_true q7
     have p9 : 0 ≤ (3 : Int) := (by omega)
     have q9 : 3 < a0.size := (by have : (3 : Int) < (a0.size : Int) := of_decide_eq_true (by first | (with_reducible assumption) | assumption); omega)
     have hx9 : ∀ h : 3 < a0.size, ((a0[3]'h).toNat : Int) = bt a0 3 := bt_at a0 3
     clear p9
     have qi9 : (3 < (a0.size : Int)) = True := eq_true (of_decide_eq_true (by first | (with_reducible assumption) | assumption))
     replace q9 := eq_true q9
     go_enter Tryd.func47, Tryd.ntmps47
     go_wp2
     repeat (go_quiet (fail); try go_wp2)
     go_ret
     exact ⟨by first | rfl | (simp; done) | (simp [*]; done), by repeat (first | exact Drawn0.refl _ | apply Drawn0.step)⟩
    ·rw [if_neg c8] at H
     exact absurd H (by simp)
   ·rw [if_neg c6] at H
    exact absurd H (by simp)
  ·rw [if_neg c4] at H
   exact absurd H (by simp)
 ·rw [if_neg c2] at H
  exact absurd H (by simp)

/-! ### carillonref02_Take: function 40 -/
def carillonref02_Take.f (k : Nat) (a0 : ByteArray) : Option (ByteArray × Int × Int) := if (a0.size : Int) < 4 then (some ((⟨#[]⟩ : ByteArray), 0, 2)) else (if 0 ≤ 4 then (if 4 ≤ (a0.size : Int) then ((carillonref02_value.f (a0.extract 0 4)).bind fun t300 => (if t300 > 400000 then (some ((⟨#[]⟩ : ByteArray), 0, 3)) else (if (a0.size : Int) < (wrap64 (8 + (wrap64 (t300)))) then (some ((⟨#[]⟩ : ByteArray), 0, 2)) else (if 4 ≤ 8 then (if 8 ≤ (a0.size : Int) then ((carillonref02_value.f (a0.extract 4 8)).bind fun t301 => (if 8 ≤ (wrap64 (8 + (wrap64 (t300)))) then (if (wrap64 (8 + (wrap64 (t300)))) ≤ (a0.size : Int) then (if (a0.extract 0 4).size + (a0.extract 8 ((wrap64 (8 + (wrap64 (t300)))) : Int).toNat).size ≤ 9223372036854775807 then ((carillonref02_Sum.f k ((a0.extract 0 4) ++ (a0.extract 8 ((wrap64 (8 + (wrap64 (t300)))) : Int).toNat))).bind fun t302 => (if t301 = t302 then (some (a0.extract 8 ((wrap64 (8 + (wrap64 (t300)))) : Int).toNat, wrap64 (8 + (wrap64 (t300))), 0)) else (some ((⟨#[]⟩ : ByteArray), 0, 4)))) else (none)) else (none)) else (none))) else (none)) else (none))))) else (none)) else (none))
theorem carillonref02_Take.mono : ∀ a0 k, LeO (carillonref02_Take.f k a0) (carillonref02_Take.f (k + 1) a0) := by
 intro a0 k
 unfold carillonref02_Take.f
 repeat' first
   | (with_reducible exact carillonref02_Sum.mono _ _)
   | (with_reducible exact LeO.refl _)
   | (with_reducible exact LeO.none _)
   | (with_reducible refine LeO.ite ?_ ?_)
   | (with_reducible refine LeO.bind ?_ (fun _ => ?_))
   | exact carillonref02_Sum.mono _ _
   | exact LeO.none _
   | refine LeO.ite ?_ ?_
   | refine LeO.bind ?_ (fun _ => ?_)
set_option maxHeartbeats 8000000 in
set_option maxRecDepth 100000 in
theorem carillonref02_Take.calls (k : Nat) (a0 : ByteArray) (r1 : ByteArray) (r2 : Int) (r3 : Int) (w : World) (h : carillonref02_Take.f k a0 = some (r1, r2, r3)) :
  Calls Tryd.prog 40 #[.string a0] w fun e w' => e = .returned (.tuple #[.string r1, .int .i64 r2, .int .i64 r3]) ∧ Drawn0 w w' := by
 have H : (if (a0.size : Int) < 4 then (some ((⟨#[]⟩ : ByteArray), 0, 2)) else (if 0 ≤ 4 then (if 4 ≤ (a0.size : Int) then ((carillonref02_value.f (a0.extract 0 4)).bind fun t300 => (if t300 > 400000 then (some ((⟨#[]⟩ : ByteArray), 0, 3)) else (if (a0.size : Int) < (wrap64 (8 + (wrap64 (t300)))) then (some ((⟨#[]⟩ : ByteArray), 0, 2)) else (if 4 ≤ 8 then (if 8 ≤ (a0.size : Int) then ((carillonref02_value.f (a0.extract 4 8)).bind fun t301 => (if 8 ≤ (wrap64 (8 + (wrap64 (t300)))) then (if (wrap64 (8 + (wrap64 (t300)))) ≤ (a0.size : Int) then (if (a0.extract 0 4).size + (a0.extract 8 ((wrap64 (8 + (wrap64 (t300)))) : Int).toNat).size ≤ 9223372036854775807 then ((carillonref02_Sum.f k ((a0.extract 0 4) ++ (a0.extract 8 ((wrap64 (8 + (wrap64 (t300)))) : Int).toNat))).bind fun t302 => (if t301 = t302 then (some (a0.extract 8 ((wrap64 (8 + (wrap64 (t300)))) : Int).toNat, wrap64 (8 + (wrap64 (t300))), 0)) else (some ((⟨#[]⟩ : ByteArray), 0, 4)))) else (none)) else (none)) else (none))) else (none)) else (none))))) else (none)) else (none))) = some (r1, r2, r3) := h
 clear h
 by_cases c2 : (a0.size : Int) < 4
 ·rw [if_pos c2] at H
  have c2b0 : decide ((a0.size : Int) < 4) = true := decide_eq_true c2
  have c2b1 : decide (a0.size < 4) = true := decide_eq_true (by omega)
  clear c2
  simp only [Option.some.injEq, Prod.mk.injEq] at H
  obtain ⟨rfl, rfl, rfl⟩ := H
  go_enter Tryd.func40, Tryd.ntmps40
  go_wp2
  go_ret3
  exact ⟨by first | rfl | (simp; done) | (simp [*]; done), by repeat (first | exact Drawn0.refl _ | apply Drawn0.step)⟩
 ·rw [if_neg c2] at H
  have c2b0 : decide ((a0.size : Int) < 4) = false := decide_eq_false c2
  have c2b1 : decide (a0.size < 4) = false := decide_eq_false (by omega)
  clear c2
  by_cases c3 : 0 ≤ 4
  ·rw [if_pos c3] at H
   have c3b0 := eq_true c3
   have c3b1 : decide (0 ≤ 4) = true := decide_eq_true c3
   clear c3
   by_cases c4 : 4 ≤ (a0.size : Int)
   ·rw [if_pos c4] at H
    have c4b0 := eq_true c4
    have c4b1 : decide (4 ≤ (a0.size : Int)) = true := decide_eq_true c4
    clear c4
    replace H := Option.bind_eq_some_iff.mp H
    obtain ⟨t300, A50, H⟩ := H
    replace H : (if t300 > 400000 then (some ((⟨#[]⟩ : ByteArray), 0, 3)) else (if (a0.size : Int) < (wrap64 (8 + (wrap64 (t300)))) then (some ((⟨#[]⟩ : ByteArray), 0, 2)) else (if 4 ≤ 8 then (if 8 ≤ (a0.size : Int) then ((carillonref02_value.f (a0.extract 4 8)).bind fun t301 => (if 8 ≤ (wrap64 (8 + (wrap64 (t300)))) then (if (wrap64 (8 + (wrap64 (t300)))) ≤ (a0.size : Int) then (if (a0.extract 0 4).size + (a0.extract 8 ((wrap64 (8 + (wrap64 (t300)))) : Int).toNat).size ≤ 9223372036854775807 then ((carillonref02_Sum.f k ((a0.extract 0 4) ++ (a0.extract 8 ((wrap64 (8 + (wrap64 (t300)))) : Int).toNat))).bind fun t302 => (if t301 = t302 then (some (a0.extract 8 ((wrap64 (8 + (wrap64 (t300)))) : Int).toNat, wrap64 (8 + (wrap64 (t300))), 0)) else (some ((⟨#[]⟩ : ByteArray), 0, 4)))) else (none)) else (none)) else (none))) else (none)) else (none)))) = some (r1, r2, r3) := H
    have A5 := Aside0.mk A50
    clear A50
    by_cases c6 : t300 > 400000
    ·rw [if_pos c6] at H
     have c6b0 : decide (400000 < t300) = true := decide_eq_true c6
     clear c6
     simp only [Option.some.injEq, Prod.mk.injEq] at H
     obtain ⟨rfl, rfl, rfl⟩ := H
     go_enter Tryd.func40, Tryd.ntmps40
     go_wp2_with (first | (go_at_call 47; (with_reducible refine (carillonref02_value.calls (a0.extract 0 4) t300 _ A5.out).mono ?_); rintro e w' ⟨rfl, ⟨nd, rfl⟩⟩; (try first | exact ⟨rfl, _, World.drewN_drewN _ _ _⟩ | exact ⟨rfl, _, Eq.trans (World.drewN_drewN _ _ _) (congrArg (World.drewN _) (Nat.add_assoc _ _ _))⟩)))
     go_ret3
     exact ⟨by first | rfl | (simp; done) | (simp [*]; done), by repeat (first | exact Drawn0.refl _ | apply Drawn0.step)⟩
    ·rw [if_neg c6] at H
     have c6b0 : decide (400000 < t300) = false := decide_eq_false c6
     clear c6
     by_cases c7 : (a0.size : Int) < (wrap64 (8 + (wrap64 (t300))))
     ·rw [if_pos c7] at H
      have c7b0 : decide ((a0.size : Int) < (wrap64 (8 + (wrap64 (t300))))) = true := decide_eq_true c7
      clear c7
      simp only [Option.some.injEq, Prod.mk.injEq] at H
      obtain ⟨rfl, rfl, rfl⟩ := H
      go_enter Tryd.func40, Tryd.ntmps40
      go_wp2_with (first | (go_at_call 47; (with_reducible refine (carillonref02_value.calls (a0.extract 0 4) t300 _ A5.out).mono ?_); rintro e w' ⟨rfl, ⟨nd, rfl⟩⟩; (try first | exact ⟨rfl, _, World.drewN_drewN _ _ _⟩ | exact ⟨rfl, _, Eq.trans (World.drewN_drewN _ _ _) (congrArg (World.drewN _) (Nat.add_assoc _ _ _))⟩)))
      go_ret3
      exact ⟨by first | rfl | (simp; done) | (simp [*]; done), by repeat (first | exact Drawn0.refl _ | apply Drawn0.step)⟩
     ·rw [if_neg c7] at H
      have c7b0 : decide ((a0.size : Int) < (wrap64 (8 + (wrap64 (t300))))) = false := decide_eq_false c7
      clear c7
      by_cases c8 : 4 ≤ 8
      ·rw [if_pos c8] at H
       have c8b0 := eq_true c8
       have c8b1 : decide (4 ≤ 8) = true := decide_eq_true c8
       clear c8
       by_cases c9 : 8 ≤ (a0.size : Int)
       ·rw [if_pos c9] at H
        have c9b0 := eq_true c9
        have c9b1 : decide (8 ≤ (a0.size : Int)) = true := decide_eq_true c9
        clear c9
        replace H := Option.bind_eq_some_iff.mp H
        obtain ⟨t301, A100, H⟩ := H
        replace H : (if 8 ≤ (wrap64 (8 + (wrap64 (t300)))) then (if (wrap64 (8 + (wrap64 (t300)))) ≤ (a0.size : Int) then (if (a0.extract 0 4).size + (a0.extract 8 ((wrap64 (8 + (wrap64 (t300)))) : Int).toNat).size ≤ 9223372036854775807 then ((carillonref02_Sum.f k ((a0.extract 0 4) ++ (a0.extract 8 ((wrap64 (8 + (wrap64 (t300)))) : Int).toNat))).bind fun t302 => (if t301 = t302 then (some (a0.extract 8 ((wrap64 (8 + (wrap64 (t300)))) : Int).toNat, wrap64 (8 + (wrap64 (t300))), 0)) else (some ((⟨#[]⟩ : ByteArray), 0, 4)))) else (none)) else (none)) else (none)) = some (r1, r2, r3) := H
        have A10 := Aside0.mk A100
        clear A100
        have c11b0 := eq_true (of_decide_eq_true (by first | (with_reducible assumption) | assumption) : 0 ≤ 4)
        have c12b0 := eq_true (of_decide_eq_true (by first | (with_reducible assumption) | assumption) : 4 ≤ (a0.size : Int))
        by_cases c13 : 8 ≤ (wrap64 (8 + (wrap64 (t300))))
        ·rw [if_pos c13] at H
         have c13b0 := eq_true c13
         have c13b1 : decide (8 ≤ (wrap64 (8 + (wrap64 (t300))))) = true := decide_eq_true c13
         by_cases c14 : (wrap64 (8 + (wrap64 (t300)))) ≤ (a0.size : Int)
         ·rw [if_pos c14] at H
          have c14b0 := eq_true c14
          have c14b1 : decide ((wrap64 (8 + (wrap64 (t300)))) ≤ (a0.size : Int)) = true := decide_eq_true c14
          by_cases c15 : (a0.extract 0 4).size + (a0.extract 8 ((wrap64 (8 + (wrap64 (t300)))) : Int).toNat).size ≤ 9223372036854775807
          ·rw [if_pos c15] at H
           have c15b0 := eq_true c15
           have c15b1 : decide ((a0.extract 0 4).size + (a0.extract 8 ((wrap64 (8 + (wrap64 (t300)))) : Int).toNat).size ≤ 9223372036854775807) = true := decide_eq_true c15
           try have c15b2 : (9223372036854775807 < (a0.extract 0 4).size + (a0.extract 8 ((wrap64 (8 + (wrap64 (t300)))) : Int).toNat).size) = False := eq_false (Nat.not_lt.2 c15)
           replace H := Option.bind_eq_some_iff.mp H
           obtain ⟨t302, A160, H⟩ := H
           replace H : (if t301 = t302 then (some (a0.extract 8 ((wrap64 (8 + (wrap64 (t300)))) : Int).toNat, wrap64 (8 + (wrap64 (t300))), 0)) else (some ((⟨#[]⟩ : ByteArray), 0, 4))) = some (r1, r2, r3) := H
           have A16 := Aside0.mk A160
           clear A160
           by_cases c17 : t301 = t302
           ·rw [if_pos c17] at H
            have c17b0 : (t301 == t302) = true := beq_iff_eq.mpr c17
            have c17b1 : (t301 != t302) = false := bne_eq_false_iff_eq.mpr c17
            clear c17
            have c18b0 := eq_true (of_decide_eq_true (by first | (with_reducible assumption) | assumption) : 8 ≤ (wrap64 (8 + (wrap64 (t300)))))
            have c19b0 := eq_true (of_decide_eq_true (by first | (with_reducible assumption) | assumption) : (wrap64 (8 + (wrap64 (t300)))) ≤ (a0.size : Int))
            simp only [Option.some.injEq, Prod.mk.injEq] at H
            obtain ⟨rfl, rfl, rfl⟩ := H
            go_enter Tryd.func40, Tryd.ntmps40
            go_wp2_with (first | (go_at_call 47; (with_reducible refine (carillonref02_value.calls (a0.extract 0 4) t300 _ A5.out).mono ?_); rintro e w' ⟨rfl, ⟨nd, rfl⟩⟩; (try first | exact ⟨rfl, _, World.drewN_drewN _ _ _⟩ | exact ⟨rfl, _, Eq.trans (World.drewN_drewN _ _ _) (congrArg (World.drewN _) (Nat.add_assoc _ _ _))⟩)) | (go_at_call 47; (with_reducible refine (carillonref02_value.calls (a0.extract 4 8) t301 _ A10.out).mono ?_); rintro e w' ⟨rfl, ⟨nd, rfl⟩⟩; (try first | exact ⟨rfl, _, World.drewN_drewN _ _ _⟩ | exact ⟨rfl, _, Eq.trans (World.drewN_drewN _ _ _) (congrArg (World.drewN _) (Nat.add_assoc _ _ _))⟩)) | (go_at_call 39; (with_reducible refine (carillonref02_Sum.calls k ((a0.extract 0 4) ++ (a0.extract 8 ((wrap64 (8 + (wrap64 (t300)))) : Int).toNat)) t302 _ A16.out).mono ?_); rintro e w' ⟨rfl, ⟨nd, rfl⟩⟩; (try first | exact ⟨rfl, _, World.drewN_drewN _ _ _⟩ | exact ⟨rfl, _, Eq.trans (World.drewN_drewN _ _ _) (congrArg (World.drewN _) (Nat.add_assoc _ _ _))⟩)))
            repeat (go_quiet (first | (go_at_call 47; (with_reducible refine (carillonref02_value.calls (a0.extract 0 4) t300 _ A5.out).mono ?_); rintro e w' ⟨rfl, ⟨nd, rfl⟩⟩; (try first | exact ⟨rfl, _, World.drewN_drewN _ _ _⟩ | exact ⟨rfl, _, Eq.trans (World.drewN_drewN _ _ _) (congrArg (World.drewN _) (Nat.add_assoc _ _ _))⟩)) | (go_at_call 47; (with_reducible refine (carillonref02_value.calls (a0.extract 4 8) t301 _ A10.out).mono ?_); rintro e w' ⟨rfl, ⟨nd, rfl⟩⟩; (try first | exact ⟨rfl, _, World.drewN_drewN _ _ _⟩ | exact ⟨rfl, _, Eq.trans (World.drewN_drewN _ _ _) (congrArg (World.drewN _) (Nat.add_assoc _ _ _))⟩)) | (go_at_call 39; (with_reducible refine (carillonref02_Sum.calls k ((a0.extract 0 4) ++ (a0.extract 8 ((wrap64 (8 + (wrap64 (t300)))) : Int).toNat)) t302 _ A16.out).mono ?_); rintro e w' ⟨rfl, ⟨nd, rfl⟩⟩; (try first | exact ⟨rfl, _, World.drewN_drewN _ _ _⟩ | exact ⟨rfl, _, Eq.trans (World.drewN_drewN _ _ _) (congrArg (World.drewN _) (Nat.add_assoc _ _ _))⟩))); try go_wp2_with (first | (go_at_call 47; (with_reducible refine (carillonref02_value.calls (a0.extract 0 4) t300 _ A5.out).mono ?_); rintro e w' ⟨rfl, ⟨nd, rfl⟩⟩; (try first | exact ⟨rfl, _, World.drewN_drewN _ _ _⟩ | exact ⟨rfl, _, Eq.trans (World.drewN_drewN _ _ _) (congrArg (World.drewN _) (Nat.add_assoc _ _ _))⟩)) | (go_at_call 47; (with_reducible refine (carillonref02_value.calls (a0.extract 4 8) t301 _ A10.out).mono ?_); rintro e w' ⟨rfl, ⟨nd, rfl⟩⟩; (try first | exact ⟨rfl, _, World.drewN_drewN _ _ _⟩ | exact ⟨rfl, _, Eq.trans (World.drewN_drewN _ _ _) (congrArg (World.drewN _) (Nat.add_assoc _ _ _))⟩)) | (go_at_call 39; (with_reducible refine (carillonref02_Sum.calls k ((a0.extract 0 4) ++ (a0.extract 8 ((wrap64 (8 + (wrap64 (t300)))) : Int).toNat)) t302 _ A16.out).mono ?_); rintro e w' ⟨rfl, ⟨nd, rfl⟩⟩; (try first | exact ⟨rfl, _, World.drewN_drewN _ _ _⟩ | exact ⟨rfl, _, Eq.trans (World.drewN_drewN _ _ _) (congrArg (World.drewN _) (Nat.add_assoc _ _ _))⟩))))
            go_ret3
            exact ⟨by first | rfl | (simp; done) | (simp [*]; done), by repeat (first | exact Drawn0.refl _ | apply Drawn0.step)⟩
           ·rw [if_neg c17] at H
            have c17b0 : (t301 == t302) = false := beq_eq_false_iff_ne.mpr c17
            have c17b1 : (t301 != t302) = true := bne_iff_ne.mpr c17
            simp only [Option.some.injEq, Prod.mk.injEq] at H
            obtain ⟨rfl, rfl, rfl⟩ := H
            go_enter Tryd.func40, Tryd.ntmps40
            go_wp2_with (first | (go_at_call 47; (with_reducible refine (carillonref02_value.calls (a0.extract 0 4) t300 _ A5.out).mono ?_); rintro e w' ⟨rfl, ⟨nd, rfl⟩⟩; (try first | exact ⟨rfl, _, World.drewN_drewN _ _ _⟩ | exact ⟨rfl, _, Eq.trans (World.drewN_drewN _ _ _) (congrArg (World.drewN _) (Nat.add_assoc _ _ _))⟩)) | (go_at_call 47; (with_reducible refine (carillonref02_value.calls (a0.extract 4 8) t301 _ A10.out).mono ?_); rintro e w' ⟨rfl, ⟨nd, rfl⟩⟩; (try first | exact ⟨rfl, _, World.drewN_drewN _ _ _⟩ | exact ⟨rfl, _, Eq.trans (World.drewN_drewN _ _ _) (congrArg (World.drewN _) (Nat.add_assoc _ _ _))⟩)) | (go_at_call 39; (with_reducible refine (carillonref02_Sum.calls k ((a0.extract 0 4) ++ (a0.extract 8 ((wrap64 (8 + (wrap64 (t300)))) : Int).toNat)) t302 _ A16.out).mono ?_); rintro e w' ⟨rfl, ⟨nd, rfl⟩⟩; (try first | exact ⟨rfl, _, World.drewN_drewN _ _ _⟩ | exact ⟨rfl, _, Eq.trans (World.drewN_drewN _ _ _) (congrArg (World.drewN _) (Nat.add_assoc _ _ _))⟩)))
            repeat (go_quiet (first | (go_at_call 47; (with_reducible refine (carillonref02_value.calls (a0.extract 0 4) t300 _ A5.out).mono ?_); rintro e w' ⟨rfl, ⟨nd, rfl⟩⟩; (try first | exact ⟨rfl, _, World.drewN_drewN _ _ _⟩ | exact ⟨rfl, _, Eq.trans (World.drewN_drewN _ _ _) (congrArg (World.drewN _) (Nat.add_assoc _ _ _))⟩)) | (go_at_call 47; (with_reducible refine (carillonref02_value.calls (a0.extract 4 8) t301 _ A10.out).mono ?_); rintro e w' ⟨rfl, ⟨nd, rfl⟩⟩; (try first | exact ⟨rfl, _, World.drewN_drewN _ _ _⟩ | exact ⟨rfl, _, Eq.trans (World.drewN_drewN _ _ _) (congrArg (World.drewN _) (Nat.add_assoc _ _ _))⟩)) | (go_at_call 39; (with_reducible refine (carillonref02_Sum.calls k ((a0.extract 0 4) ++ (a0.extract 8 ((wrap64 (8 + (wrap64 (t300)))) : Int).toNat)) t302 _ A16.out).mono ?_); rintro e w' ⟨rfl, ⟨nd, rfl⟩⟩; (try first | exact ⟨rfl, _, World.drewN_drewN _ _ _⟩ | exact ⟨rfl, _, Eq.trans (World.drewN_drewN _ _ _) (congrArg (World.drewN _) (Nat.add_assoc _ _ _))⟩))); try go_wp2_with (first | (go_at_call 47; (with_reducible refine (carillonref02_value.calls (a0.extract 0 4) t300 _ A5.out).mono ?_); rintro e w' ⟨rfl, ⟨nd, rfl⟩⟩; (try first | exact ⟨rfl, _, World.drewN_drewN _ _ _⟩ | exact ⟨rfl, _, Eq.trans (World.drewN_drewN _ _ _) (congrArg (World.drewN _) (Nat.add_assoc _ _ _))⟩)) | (go_at_call 47; (with_reducible refine (carillonref02_value.calls (a0.extract 4 8) t301 _ A10.out).mono ?_); rintro e w' ⟨rfl, ⟨nd, rfl⟩⟩; (try first | exact ⟨rfl, _, World.drewN_drewN _ _ _⟩ | exact ⟨rfl, _, Eq.trans (World.drewN_drewN _ _ _) (congrArg (World.drewN _) (Nat.add_assoc _ _ _))⟩)) | (go_at_call 39; (with_reducible refine (carillonref02_Sum.calls k ((a0.extract 0 4) ++ (a0.extract 8 ((wrap64 (8 + (wrap64 (t300)))) : Int).toNat)) t302 _ A16.out).mono ?_); rintro e w' ⟨rfl, ⟨nd, rfl⟩⟩; (try first | exact ⟨rfl, _, World.drewN_drewN _ _ _⟩ | exact ⟨rfl, _, Eq.trans (World.drewN_drewN _ _ _) (congrArg (World.drewN _) (Nat.add_assoc _ _ _))⟩))))
            go_ret3
            exact ⟨by first | rfl | (simp; done) | (simp [*]; done), by repeat (first | exact Drawn0.refl _ | apply Drawn0.step)⟩
          ·rw [if_neg c15] at H
           exact absurd H (by simp)
         ·rw [if_neg c14] at H
          exact absurd H (by simp)
        ·rw [if_neg c13] at H
         exact absurd H (by simp)
       ·rw [if_neg c9] at H
        exact absurd H (by simp)
      ·rw [if_neg c8] at H
       exact absurd H (by simp)
   ·rw [if_neg c4] at H
    exact absurd H (by simp)
  ·rw [if_neg c3] at H
   exact absurd H (by simp)

end Go.Proofs.YtmjgifhgodgghaaDoor.P
