-- Printed by this session's program wip/xp.py (a turned copy of the kit's printer): functions, their contracts.
import Derived.Test.YtpgiagdpepkooaaDoorPx0
import Derived.Test.YtpgiagdpepkooaaDoorPx1
import Derived.Test.YtpgiagdpepkooaaDoorPx3
import Derived.Test.YtpgiagdpepkooaaDoorPx5
import Derived.Test.YtpgiagdpepkooaaDoorPx8
import Derived.Test.YtpgiagdpepkooaaDoorPx14
import Derived.Test.YtpgiagdpepkooaaDoorPx18
import Derived.Test.YtpgiagdpepkooaaDoorPx29
import Derived.Test.YtpgiagdpepkooaaDoorPx30
import Derived.Test.YtpgiagdpepkooaaDoorPx36
namespace Go.Proofs.YtpgiagdpepkooaaDoor.P
open Go.RowKit Go.Proofs.YtpgiagdpepkooaaDoorW.PrintWords Go.Proofs.YtpgiagdpepkooaaDoorW.PrintLast Go.Proofs.YtpgiagdpepkooaaDoorW.PrintMore
attribute [local go_sem] max2_int min2_int max_two min_two max_three min_three max_four min_four   -- for this text's walks alone
set_option linter.unusedVariables false
set_option linter.unusedSimpArgs false

attribute [local go_sem high] eqA23
/-! ### carillonlaw14_CommandBytes: function 3 -/
def carillonlaw14_CommandBytes.f (k : Nat) (a0_0 : Int) (a0_1 : ByteArray) (a0_2 : ByteArray) (a0_3 : Int) (a0_4 : ByteArray) (a0_5 : ByteArray) (a0_6 : Int) (a0_7 : Int) (a0_8 : Int) (a1 : ByteArray) : Option (Bool) := (carillonlaw14_examples.f).bind fun t479 => ((command_Encode.f k a0_0 a0_1 a0_2 a0_3 a0_4 a0_5 a0_6 a0_7 a0_8).bind fun bt480 => ((carillonref14_Encode.f k a0_0 a0_1 a0_2 a0_3 a0_4 a0_5 a0_6 a0_7 a0_8).bind fun bt482 => ((command_Decode.f k a1).bind fun bt484 => ((carillonref14_Decode.f k a1).bind fun bt495 => (if t479 = true then ((command_Right.f a0_0 a0_1 a0_2 a0_3 a0_4 a0_5 a0_6 a0_7 a0_8).bind fun t506 => ((carillonref14_Right.f k a0_0 a0_1 a0_2 a0_3 a0_4 a0_5 a0_6 a0_7 a0_8).bind fun t507 => (if (t506 == t507) = true then (if bt480.1.toList = bt482.1.toList then (if ((bt480.2 == 0) == bt482.2) = true then (if bt482.2 = true then (if (bt484.1 == bt495.1 && (bt484.2.1.toList == bt495.2.1.toList && (bt484.2.2.1.toList == bt495.2.2.1.toList && (bt484.2.2.2.1 == bt495.2.2.2.1 && (bt484.2.2.2.2.1.toList == bt495.2.2.2.2.1.toList && (bt484.2.2.2.2.2.1.toList == bt495.2.2.2.2.2.1.toList && (bt484.2.2.2.2.2.2.1 == bt495.2.2.2.2.2.2.1 && (bt484.2.2.2.2.2.2.2.1 == bt495.2.2.2.2.2.2.2.1 && (bt484.2.2.2.2.2.2.2.2.1 == bt495.2.2.2.2.2.2.2.2.1))))))))) = true then (if bt484.2.2.2.2.2.2.2.2.2 = bt495.2.2.2.2.2.2.2.2.2 then ((command_Word.f a1).bind fun t508 => ((carillonref14_Word.f k a1).bind fun t509 => (some (t508 == t509)))) else (some false)) else (some false)) else (if bt480.2 = 1 then (if (bt484.1 == bt495.1 && (bt484.2.1.toList == bt495.2.1.toList && (bt484.2.2.1.toList == bt495.2.2.1.toList && (bt484.2.2.2.1 == bt495.2.2.2.1 && (bt484.2.2.2.2.1.toList == bt495.2.2.2.2.1.toList && (bt484.2.2.2.2.2.1.toList == bt495.2.2.2.2.2.1.toList && (bt484.2.2.2.2.2.2.1 == bt495.2.2.2.2.2.2.1 && (bt484.2.2.2.2.2.2.2.1 == bt495.2.2.2.2.2.2.2.1 && (bt484.2.2.2.2.2.2.2.2.1 == bt495.2.2.2.2.2.2.2.2.1))))))))) = true then (if bt484.2.2.2.2.2.2.2.2.2 = bt495.2.2.2.2.2.2.2.2.2 then ((command_Word.f a1).bind fun t510 => ((carillonref14_Word.f k a1).bind fun t511 => (some (t510 == t511)))) else (some false)) else (some false)) else (some false))) else (some false)) else (some false)) else (some false)))) else (some false))))))
def carillonlaw14_CommandBytes.T6 : Bool × List (List Nat × List Nat) := (true, [([], []), ([0], [0]), ([1], [1]), ([2, 1, 1], [1, 2]), ([1], [1]), ([4, 3, 1], [1, 4]), ([3, 5, 1], [1, 3, 5]), ([1, 6], [1, 6]), ([7, 5], [7]), ([8], [8]), ([8], [8]), ([9, 10, 8], [8, 9, 10]), ([8, 11], [8, 11]), ([12, 8], [12]), ([13], [13]), ([14, 13], [13, 14]), ([13], [13]), ([15, 16, 13], [13, 15, 16]), ([13, 17], [13, 17]), ([18, 13], [18]), ([19], [19]), ([20, 19, 19], [19, 20]), ([21], [21]), ([22, 21], [21, 22]), ([21, 23, 19], [19, 21, 23]), ([19, 24], [19, 24]), ([25, 21], [25]), ([26], [26]), ([26], [26]), ([27, 28, 26], [26, 27, 28]), ([26, 29], [26, 29]), ([30, 26], [30]), ([31], [31]), ([31], [31]), ([32, 33, 31], [31, 32, 33]), ([31, 34], [31, 34]), ([35, 31], [35]), ([36], [36]), ([37, 36, 36], [36, 37]), ([36], [36]), ([39, 38, 36], [36, 39]), ([38, 40, 36], [36, 38, 40]), ([36, 41], [36, 41]), ([42, 40, 0, 1, 2, 3, 4, 5, 6, 7, 8, 9, 10, 11, 12, 13, 14, 15, 16, 17, 18, 19, 20, 21, 22, 23, 24, 25, 26, 27, 28, 29, 30, 31, 32, 33, 34, 35, 36, 37, 38, 39, 40, 41, 42], [42])])
def carillonlaw14_CommandBytes.B6 : List Nat := [0, 1, 3, 7, 3, 31, 63, 127, 255, 511, 511, 2047, 4095, 8191, 16383, 32767, 16383, 131071, 262143, 524287, 1048575, 2097151, 4194303, 8388607, 16777215, 33554431, 67108863, 134217727, 134217727, 536870911, 1073741823, 2147483647, 4294967295, 4294967295, 17179869183, 34359738367, 68719476735, 137438953471, 274877906943, 137438953471, 1099511627775, 2199023255551, 4398046511103, 8796093022207]
theorem carillonlaw14_CommandBytes.tab6 : rtab .any (opsOf Tryd.f3 6) = carillonlaw14_CommandBytes.T6 := by kernel_rfl
theorem carillonlaw14_CommandBytes.bits6 : waitsOk carillonlaw14_CommandBytes.T6.2 carillonlaw14_CommandBytes.B6 = true := by kernel_rfl
set_option maxHeartbeats 8000000 in
set_option maxRecDepth 100000 in
theorem carillonlaw14_CommandBytes.calls (k : Nat) (a0_0 : Int) (a0_1 : ByteArray) (a0_2 : ByteArray) (a0_3 : Int) (a0_4 : ByteArray) (a0_5 : ByteArray) (a0_6 : Int) (a0_7 : Int) (a0_8 : Int) (a1 : ByteArray) (r : Bool) (w : World) (hr_ : Aside0 (r = true)) (HT_ : TabOk w) (h : carillonlaw14_CommandBytes.f k a0_0 a0_1 a0_2 a0_3 a0_4 a0_5 a0_6 a0_7 a0_8 a1 = some r) :
  Calls Tryd.prog 3 #[.agg #[.int .i64 a0_0, .string a0_1, .string a0_2, .int .i64 a0_3, .string a0_4, .string a0_5, .int .i64 a0_6, .int .i64 a0_7, .int .i64 a0_8], .string a1] w fun e w' => e = .returned (.bool r) ∧ Below w.heap.size w w' := by
 have HT := Aside0.mk HT_
 clear HT_
 have hu23 := Tryd.underlying23
 have HB := Aside0.mk (Below.refl w.heap.size w)
 have H := h
 unfold carillonlaw14_CommandBytes.f at H
 clear h
 replace H := Option.bind_eq_some_iff.mp H
 obtain ⟨t479, A30, H⟩ := H
 have A3 := Aside0.mk A30
 clear A30
 replace H := Option.bind_eq_some_iff.mp H
 obtain ⟨⟨t480, t481⟩, A40, H⟩ := H
 replace H : ((carillonref14_Encode.f k a0_0 a0_1 a0_2 a0_3 a0_4 a0_5 a0_6 a0_7 a0_8).bind fun bt482 => ((command_Decode.f k a1).bind fun bt484 => ((carillonref14_Decode.f k a1).bind fun bt495 => (if t479 = true then ((command_Right.f a0_0 a0_1 a0_2 a0_3 a0_4 a0_5 a0_6 a0_7 a0_8).bind fun t506 => ((carillonref14_Right.f k a0_0 a0_1 a0_2 a0_3 a0_4 a0_5 a0_6 a0_7 a0_8).bind fun t507 => (if (t506 == t507) = true then (if t480.toList = bt482.1.toList then (if ((t481 == 0) == bt482.2) = true then (if bt482.2 = true then (if (bt484.1 == bt495.1 && (bt484.2.1.toList == bt495.2.1.toList && (bt484.2.2.1.toList == bt495.2.2.1.toList && (bt484.2.2.2.1 == bt495.2.2.2.1 && (bt484.2.2.2.2.1.toList == bt495.2.2.2.2.1.toList && (bt484.2.2.2.2.2.1.toList == bt495.2.2.2.2.2.1.toList && (bt484.2.2.2.2.2.2.1 == bt495.2.2.2.2.2.2.1 && (bt484.2.2.2.2.2.2.2.1 == bt495.2.2.2.2.2.2.2.1 && (bt484.2.2.2.2.2.2.2.2.1 == bt495.2.2.2.2.2.2.2.2.1))))))))) = true then (if bt484.2.2.2.2.2.2.2.2.2 = bt495.2.2.2.2.2.2.2.2.2 then ((command_Word.f a1).bind fun t508 => ((carillonref14_Word.f k a1).bind fun t509 => (some (t508 == t509)))) else (some false)) else (some false)) else (if t481 = 1 then (if (bt484.1 == bt495.1 && (bt484.2.1.toList == bt495.2.1.toList && (bt484.2.2.1.toList == bt495.2.2.1.toList && (bt484.2.2.2.1 == bt495.2.2.2.1 && (bt484.2.2.2.2.1.toList == bt495.2.2.2.2.1.toList && (bt484.2.2.2.2.2.1.toList == bt495.2.2.2.2.2.1.toList && (bt484.2.2.2.2.2.2.1 == bt495.2.2.2.2.2.2.1 && (bt484.2.2.2.2.2.2.2.1 == bt495.2.2.2.2.2.2.2.1 && (bt484.2.2.2.2.2.2.2.2.1 == bt495.2.2.2.2.2.2.2.2.1))))))))) = true then (if bt484.2.2.2.2.2.2.2.2.2 = bt495.2.2.2.2.2.2.2.2.2 then ((command_Word.f a1).bind fun t510 => ((carillonref14_Word.f k a1).bind fun t511 => (some (t510 == t511)))) else (some false)) else (some false)) else (some false))) else (some false)) else (some false)) else (some false)))) else (some false))))) = some r := H
 have A4 := Aside0.mk A40
 clear A40
 replace H := Option.bind_eq_some_iff.mp H
 obtain ⟨⟨t482, t483⟩, A50, H⟩ := H
 replace H : ((command_Decode.f k a1).bind fun bt484 => ((carillonref14_Decode.f k a1).bind fun bt495 => (if t479 = true then ((command_Right.f a0_0 a0_1 a0_2 a0_3 a0_4 a0_5 a0_6 a0_7 a0_8).bind fun t506 => ((carillonref14_Right.f k a0_0 a0_1 a0_2 a0_3 a0_4 a0_5 a0_6 a0_7 a0_8).bind fun t507 => (if (t506 == t507) = true then (if t480.toList = t482.toList then (if ((t481 == 0) == t483) = true then (if t483 = true then (if (bt484.1 == bt495.1 && (bt484.2.1.toList == bt495.2.1.toList && (bt484.2.2.1.toList == bt495.2.2.1.toList && (bt484.2.2.2.1 == bt495.2.2.2.1 && (bt484.2.2.2.2.1.toList == bt495.2.2.2.2.1.toList && (bt484.2.2.2.2.2.1.toList == bt495.2.2.2.2.2.1.toList && (bt484.2.2.2.2.2.2.1 == bt495.2.2.2.2.2.2.1 && (bt484.2.2.2.2.2.2.2.1 == bt495.2.2.2.2.2.2.2.1 && (bt484.2.2.2.2.2.2.2.2.1 == bt495.2.2.2.2.2.2.2.2.1))))))))) = true then (if bt484.2.2.2.2.2.2.2.2.2 = bt495.2.2.2.2.2.2.2.2.2 then ((command_Word.f a1).bind fun t508 => ((carillonref14_Word.f k a1).bind fun t509 => (some (t508 == t509)))) else (some false)) else (some false)) else (if t481 = 1 then (if (bt484.1 == bt495.1 && (bt484.2.1.toList == bt495.2.1.toList && (bt484.2.2.1.toList == bt495.2.2.1.toList && (bt484.2.2.2.1 == bt495.2.2.2.1 && (bt484.2.2.2.2.1.toList == bt495.2.2.2.2.1.toList && (bt484.2.2.2.2.2.1.toList == bt495.2.2.2.2.2.1.toList && (bt484.2.2.2.2.2.2.1 == bt495.2.2.2.2.2.2.1 && (bt484.2.2.2.2.2.2.2.1 == bt495.2.2.2.2.2.2.2.1 && (bt484.2.2.2.2.2.2.2.2.1 == bt495.2.2.2.2.2.2.2.2.1))))))))) = true then (if bt484.2.2.2.2.2.2.2.2.2 = bt495.2.2.2.2.2.2.2.2.2 then ((command_Word.f a1).bind fun t510 => ((carillonref14_Word.f k a1).bind fun t511 => (some (t510 == t511)))) else (some false)) else (some false)) else (some false))) else (some false)) else (some false)) else (some false)))) else (some false)))) = some r := H
 have A5 := Aside0.mk A50
 clear A50
 replace H := Option.bind_eq_some_iff.mp H
 obtain ⟨⟨t484, t485, t486, t487, t488, t489, t490, t491, t492, t493⟩, A60, H⟩ := H
 replace H : ((carillonref14_Decode.f k a1).bind fun bt495 => (if t479 = true then ((command_Right.f a0_0 a0_1 a0_2 a0_3 a0_4 a0_5 a0_6 a0_7 a0_8).bind fun t506 => ((carillonref14_Right.f k a0_0 a0_1 a0_2 a0_3 a0_4 a0_5 a0_6 a0_7 a0_8).bind fun t507 => (if (t506 == t507) = true then (if t480.toList = t482.toList then (if ((t481 == 0) == t483) = true then (if t483 = true then (if (t484 == bt495.1 && (t485.toList == bt495.2.1.toList && (t486.toList == bt495.2.2.1.toList && (t487 == bt495.2.2.2.1 && (t488.toList == bt495.2.2.2.2.1.toList && (t489.toList == bt495.2.2.2.2.2.1.toList && (t490 == bt495.2.2.2.2.2.2.1 && (t491 == bt495.2.2.2.2.2.2.2.1 && (t492 == bt495.2.2.2.2.2.2.2.2.1))))))))) = true then (if t493 = bt495.2.2.2.2.2.2.2.2.2 then ((command_Word.f a1).bind fun t508 => ((carillonref14_Word.f k a1).bind fun t509 => (some (t508 == t509)))) else (some false)) else (some false)) else (if t481 = 1 then (if (t484 == bt495.1 && (t485.toList == bt495.2.1.toList && (t486.toList == bt495.2.2.1.toList && (t487 == bt495.2.2.2.1 && (t488.toList == bt495.2.2.2.2.1.toList && (t489.toList == bt495.2.2.2.2.2.1.toList && (t490 == bt495.2.2.2.2.2.2.1 && (t491 == bt495.2.2.2.2.2.2.2.1 && (t492 == bt495.2.2.2.2.2.2.2.2.1))))))))) = true then (if t493 = bt495.2.2.2.2.2.2.2.2.2 then ((command_Word.f a1).bind fun t510 => ((carillonref14_Word.f k a1).bind fun t511 => (some (t510 == t511)))) else (some false)) else (some false)) else (some false))) else (some false)) else (some false)) else (some false)))) else (some false))) = some r := H
 have A6 := Aside0.mk A60
 clear A60
 replace H := Option.bind_eq_some_iff.mp H
 obtain ⟨⟨t495, t496, t497, t498, t499, t500, t501, t502, t503, t504⟩, A70, H⟩ := H
 replace H : (if t479 = true then ((command_Right.f a0_0 a0_1 a0_2 a0_3 a0_4 a0_5 a0_6 a0_7 a0_8).bind fun t506 => ((carillonref14_Right.f k a0_0 a0_1 a0_2 a0_3 a0_4 a0_5 a0_6 a0_7 a0_8).bind fun t507 => (if (t506 == t507) = true then (if t480.toList = t482.toList then (if ((t481 == 0) == t483) = true then (if t483 = true then (if (t484 == t495 && (t485.toList == t496.toList && (t486.toList == t497.toList && (t487 == t498 && (t488.toList == t499.toList && (t489.toList == t500.toList && (t490 == t501 && (t491 == t502 && (t492 == t503))))))))) = true then (if t493 = t504 then ((command_Word.f a1).bind fun t508 => ((carillonref14_Word.f k a1).bind fun t509 => (some (t508 == t509)))) else (some false)) else (some false)) else (if t481 = 1 then (if (t484 == t495 && (t485.toList == t496.toList && (t486.toList == t497.toList && (t487 == t498 && (t488.toList == t499.toList && (t489.toList == t500.toList && (t490 == t501 && (t491 == t502 && (t492 == t503))))))))) = true then (if t493 = t504 then ((command_Word.f a1).bind fun t510 => ((carillonref14_Word.f k a1).bind fun t511 => (some (t510 == t511)))) else (some false)) else (some false)) else (some false))) else (some false)) else (some false)) else (some false)))) else (some false)) = some r := H
 have A7 := Aside0.mk A70
 clear A70
 by_cases c8 : t479 = true; rotate_left
 ·replace c8 := Bool.eq_false_iff.mpr c8
  subst c8
  have H1 : (some false) = some r := by rw [if_neg (show ¬ (false = true) by decide)] at H; exact H
  clear H
  have H := H1
  clear H1
  exact absurd ((Option.some.inj H).trans hr_.out) (by decide)
 subst c8
 have H1 := H
 rw [if_pos rfl] at H1
 clear H
 have H := H1
 clear H1
 replace H := Option.bind_eq_some_iff.mp H
 obtain ⟨t506, A90, H⟩ := H
 have A9 := Aside0.mk A90
 clear A90
 replace H := Option.bind_eq_some_iff.mp H
 obtain ⟨t507, A100, H⟩ := H
 have A10 := Aside0.mk A100
 clear A100
 by_cases c11 : (t506 == t507) = true; rotate_left
 ·rw [if_neg c11] at H
  have c11b0 : (t506 == t507) = false := by simpa using c11
  (try (have c11b1 : decide (t506 = t507) = false := by simpa using c11))
  (try (have c11b2 : (t506 == t507) = false := by simpa using c11))
  (try (have c11b3 : ¬ (t506 = t507) := by simpa using c11))
  clear c11
  exact absurd ((Option.some.inj H).trans hr_.out) (by decide)
 rw [if_pos c11] at H
 have c11b0 : (t506 == t507) = true := c11
 (try (have c11b1 : decide (t506 = t507) = true := by simpa using c11))
 (try (have c11b2 : (t506 == t507) = true := by simpa using c11))
 clear c11
 by_cases c12 : t480.toList = t482.toList; rotate_left
 ·rw [if_neg c12] at H
  have c12b0 : (t480.toList == t482.toList) = false := beq_eq_false_iff_ne.mpr c12
  have c12b1 : (t480.toList != t482.toList) = true := bne_iff_ne.mpr c12
  exact absurd ((Option.some.inj H).trans hr_.out) (by decide)
 rw [if_pos c12] at H
 have c12b0 : (t480.toList == t482.toList) = true := beq_iff_eq.mpr c12
 have c12b1 : (t480.toList != t482.toList) = false := bne_eq_false_iff_eq.mpr c12
 clear c12
 by_cases c13 : ((t481 == 0) == t483) = true; rotate_left
 ·rw [if_neg c13] at H
  have c13b0 : ((t481 == 0) == t483) = false := by simpa using c13
  (try (have c13b1 : decide ((t481 == 0) = t483) = false := by simpa using c13))
  (try (have c13b2 : ((t481 == 0) == t483) = false := by simpa using c13))
  (try (have c13b3 : ¬ ((t481 == 0) = t483) := by simpa using c13))
  clear c13
  exact absurd ((Option.some.inj H).trans hr_.out) (by decide)
 rw [if_pos c13] at H
 have c13b0 : ((t481 == 0) == t483) = true := c13
 (try (have c13b1 : decide ((t481 == 0) = t483) = true := by simpa using c13))
 (try (have c13b2 : ((t481 == 0) == t483) = true := by simpa using c13))
 clear c13
 by_cases c14 : t483 = true
 ·subst c14
  have H1 := H
  rw [if_pos rfl] at H1
  clear H
  have H := H1
  clear H1
  by_cases c15 : (t484 == t495 && (t485.toList == t496.toList && (t486.toList == t497.toList && (t487 == t498 && (t488.toList == t499.toList && (t489.toList == t500.toList && (t490 == t501 && (t491 == t502 && (t492 == t503))))))))) = true; rotate_left
  ·rw [if_neg c15] at H
   have c15b0 : (t484 == t495 && (t485.toList == t496.toList && (t486.toList == t497.toList && (t487 == t498 && (t488.toList == t499.toList && (t489.toList == t500.toList && (t490 == t501 && (t491 == t502 && (t492 == t503))))))))) = false := by simpa using c15
   (try (have c15b1 : decide (t484 = t495 && (t485.toList == t496.toList && (t486.toList == t497.toList && (t487 == t498 && (t488.toList == t499.toList && (t489.toList == t500.toList && (t490 == t501 && (t491 == t502 && (t492 == t503))))))))) = false := by simpa using c15))
   (try (have c15b2 : (t484 == t495 && (t485.toList == t496.toList && (t486.toList == t497.toList && (t487 == t498 && (t488.toList == t499.toList && (t489.toList == t500.toList && (t490 == t501 && (t491 == t502 && (t492 == t503))))))))) = false := by simpa using c15))
   (try (have c15b3 : ¬ (t484 = t495 && (t485.toList == t496.toList && (t486.toList == t497.toList && (t487 == t498 && (t488.toList == t499.toList && (t489.toList == t500.toList && (t490 == t501 && (t491 == t502 && (t492 == t503))))))))) := by simpa using c15))
   (try (have c15b4 : (!(t484 == t495) || (!(t485.toList == t496.toList) || (!(t486.toList == t497.toList) || (!(t487 == t498) || (!(t488.toList == t499.toList) || (!(t489.toList == t500.toList) || (!(t490 == t501) || (!(t491 == t502) || (!(t492 == t503)))))))))) = true := by have e_ : (!(t484 == t495) || (!(t485.toList == t496.toList) || (!(t486.toList == t497.toList) || (!(t487 == t498) || (!(t488.toList == t499.toList) || (!(t489.toList == t500.toList) || (!(t490 == t501) || (!(t491 == t502) || (!(t492 == t503)))))))))) = (!(t484 == t495 && (t485.toList == t496.toList && (t486.toList == t497.toList && (t487 == t498 && (t488.toList == t499.toList && (t489.toList == t500.toList && (t490 == t501 && (t491 == t502 && (t492 == t503)))))))))) := (by simp only [Bool.not_or, Bool.not_and, Bool.not_not]); rw [e_]; first | (simp only [c15, Bool.not_true]; done) | (simp only [Bool.eq_false_iff.mpr c15, Bool.not_false]; done)))
   clear c15
   exact absurd ((Option.some.inj H).trans hr_.out) (by decide)
  rw [if_pos c15] at H
  have c15b0 : (t484 == t495 && (t485.toList == t496.toList && (t486.toList == t497.toList && (t487 == t498 && (t488.toList == t499.toList && (t489.toList == t500.toList && (t490 == t501 && (t491 == t502 && (t492 == t503))))))))) = true := c15
  (try (have c15b1 : decide (t484 = t495 && (t485.toList == t496.toList && (t486.toList == t497.toList && (t487 == t498 && (t488.toList == t499.toList && (t489.toList == t500.toList && (t490 == t501 && (t491 == t502 && (t492 == t503))))))))) = true := by simpa using c15))
  (try (have c15b2 : (t484 == t495 && (t485.toList == t496.toList && (t486.toList == t497.toList && (t487 == t498 && (t488.toList == t499.toList && (t489.toList == t500.toList && (t490 == t501 && (t491 == t502 && (t492 == t503))))))))) = true := by simpa using c15))
  (try (have c15b3 : (!(t484 == t495) || (!(t485.toList == t496.toList) || (!(t486.toList == t497.toList) || (!(t487 == t498) || (!(t488.toList == t499.toList) || (!(t489.toList == t500.toList) || (!(t490 == t501) || (!(t491 == t502) || (!(t492 == t503)))))))))) = false := by have e_ : (!(t484 == t495) || (!(t485.toList == t496.toList) || (!(t486.toList == t497.toList) || (!(t487 == t498) || (!(t488.toList == t499.toList) || (!(t489.toList == t500.toList) || (!(t490 == t501) || (!(t491 == t502) || (!(t492 == t503)))))))))) = (!(t484 == t495 && (t485.toList == t496.toList && (t486.toList == t497.toList && (t487 == t498 && (t488.toList == t499.toList && (t489.toList == t500.toList && (t490 == t501 && (t491 == t502 && (t492 == t503)))))))))) := (by simp only [Bool.not_or, Bool.not_and, Bool.not_not]); rw [e_]; first | (simp only [c15, Bool.not_true]; done) | (simp only [Bool.eq_false_iff.mpr c15, Bool.not_false]; done)))
  clear c15
  by_cases c16 : t493 = t504; rotate_left
  ·rw [if_neg c16] at H
   have c16b0 : (t493 == t504) = false := beq_eq_false_iff_ne.mpr c16
   have c16b1 : (t493 != t504) = true := bne_iff_ne.mpr c16
   exact absurd ((Option.some.inj H).trans hr_.out) (by decide)
  rw [if_pos c16] at H
  have c16b0 : (t493 == t504) = true := beq_iff_eq.mpr c16
  have c16b1 : (t493 != t504) = false := bne_eq_false_iff_eq.mpr c16
  clear c16
  replace H := Option.bind_eq_some_iff.mp H
  obtain ⟨t508, A170, H⟩ := H
  have A17 := Aside0.mk A170
  clear A170
  replace H := Option.bind_eq_some_iff.mp H
  obtain ⟨t509, A180, H⟩ := H
  have A18 := Aside0.mk A180
  clear A180
  obtain rfl := Option.some.inj H
  go_enter Tryd.func3, Tryd.ntmps3
  try go_wp2_with (first | ((with_reducible refine gate_dst (N := 2) rfl ?_); refine box_event ?hg (N := 2) ?hd (cs := #[.int .i64 a0_0, .string a0_1, .string a0_2, .int .i64 a0_3, .string a0_4, .string a0_5, .int .i64 a0_6, .int .i64 a0_7, .int .i64 a0_8]) (t := 23) ?hr ?_; (case hd => rfl); (case hg => rfl); (case hr => first | (go_simp; done) | (go_simp; rfl)); intro ae hg w19 hbox hb; have aa := Aside0.mk (hbox); have GW478 := Aside0.mk ((g1 hg bw : w.heap.size ≤ ae)); have GE478 := Aside0.mk ((g1 hg bw : w.heap.size ≤ ae)); replace HB := Aside0.mk (below_step bw hb); clear hb hbox hg) | ((with_reducible refine gate_callee (f := 11) rfl ?_); refine goesL_ (some 14) rfl rfl Tryd.func11 (by kernel_rfl) rfl #[] rfl am ?_; (with_reducible refine (carillonlaw14_examples.calls  true _ tbk A3.out).mono ?_); rintro e w20 ⟨rfl, hb⟩; refine ⟨_, rfl, ?_⟩; replace aa := Aside0.mk (nb aa.out hb); replace HB := Aside0.mk (below_step bw hb); (try clear hb); obtain ⟨hcz21_0, hcz21_1, hcz21_2, hcz21_3, hcz21_4, hcz21_5, hcz21_6, hcz21_7, hcz21_8, hfz21_0, hfz21_1, hfz21_2, hfz21_3, hfz21_4, hfz21_5, hfz21_6, hfz21_7, hfz21_8⟩ := bx9 aa.out) | ((with_reducible refine gate_callee (f := 12) rfl ?_); refine goesL_ (some 17) rfl rfl Tryd.func12 (by kernel_rfl) rfl #[.agg #[.int .i64 a0_0, .string a0_1, .string a0_2, .int .i64 a0_3, .string a0_4, .string a0_5, .int .i64 a0_6, .int .i64 a0_7, .int .i64 a0_8]] rfl am ?_; (with_reducible refine (command_Encode.calls k a0_0 a0_1 a0_2 a0_3 a0_4 a0_5 a0_6 a0_7 a0_8 t480 t481 _ tbk A4.out).mono ?_); rintro e w22 ⟨rfl, hb⟩; refine ⟨_, rfl, ?_⟩; replace aa := Aside0.mk (nb aa.out hb); replace HB := Aside0.mk (below_step bw hb); (try clear hb); obtain ⟨hcz23_0, hcz23_1, hcz23_2, hcz23_3, hcz23_4, hcz23_5, hcz23_6, hcz23_7, hcz23_8, hfz23_0, hfz23_1, hfz23_2, hfz23_3, hfz23_4, hfz23_5, hfz23_6, hfz23_7, hfz23_8⟩ := bx9 aa.out) | ((with_reducible refine gate_callee (f := 13) rfl ?_); refine goesL_ (some 22) rfl rfl Tryd.func13 (by kernel_rfl) rfl #[.agg #[.int .i64 a0_0, .string a0_1, .string a0_2, .int .i64 a0_3, .string a0_4, .string a0_5, .int .i64 a0_6, .int .i64 a0_7, .int .i64 a0_8]] rfl am ?_; (with_reducible refine (carillonref14_Encode.calls k a0_0 a0_1 a0_2 a0_3 a0_4 a0_5 a0_6 a0_7 a0_8 t482 true _ A5.out).mono ?_); rintro e w24 ⟨rfl, hb⟩; refine ⟨_, rfl, ?_⟩; replace aa := Aside0.mk (nb aa.out hb); replace HB := Aside0.mk (below_step bw hb); (try clear hb)) | ((with_reducible refine gate_callee (f := 14) rfl ?_); refine goesL_ (some 27) rfl rfl Tryd.func14 (by kernel_rfl) rfl #[.string a1] rfl am ?_; (with_reducible refine (command_Decode.calls k a1 t484 t485 t486 t487 t488 t489 t490 t491 t492 t493 _ tbk A6.out).mono ?_); rintro e w25 ⟨rfl, hb⟩; refine ⟨_, rfl, ?_⟩; replace aa := Aside0.mk (nb aa.out hb); replace HB := Aside0.mk (below_step bw hb); (try clear hb)) | ((with_reducible refine gate_dst (N := 10) rfl ?_); refine box_event ?hg (N := 10) ?hd (cs := za1_) (t := 23) ?hr ?_; (case hd => rfl); (case hg => rfl); (case hr => first | (go_simp; done) | (go_simp; rfl)); intro af hg w26 hbox hb; have ab := Aside0.mk (hbox); have GW494 := Aside0.mk ((g1 hg bw : w.heap.size ≤ af)); have GE494 := Aside0.mk ((g1 hg bw : w.heap.size ≤ af)); replace HB := Aside0.mk (below_step bw hb); have ag := Aside0.mk ((n1 hg aa.out : ae ≠ af)); have aj := Aside0.mk ((n2 hg aa.out : af ≠ ae)); replace aa := Aside0.mk (nb aa.out hb); clear hb hbox hg; have hnb27 := aj.out; have hnc27 := ag.out; obtain ⟨hcz28_0, hcz28_1, hcz28_2, hcz28_3, hcz28_4, hcz28_5, hcz28_6, hcz28_7, hcz28_8, hfz28_0, hfz28_1, hfz28_2, hfz28_3, hfz28_4, hfz28_5, hfz28_6, hfz28_7, hfz28_8⟩ := bx9 ab.out) | ((with_reducible refine gate_callee (f := 15) rfl ?_); refine goesL_ (some 32) rfl rfl Tryd.func15 (by kernel_rfl) rfl #[.string a1] rfl am ?_; (with_reducible refine (carillonref14_Decode.calls k a1 t495 t496 t497 t498 t499 t500 t501 t502 t503 t504 _ A7.out).mono ?_); rintro e w29 ⟨rfl, hb⟩; refine ⟨_, rfl, ?_⟩; replace aa := Aside0.mk (blk_below (g := ae) (o := .cells #[.int .i64 a0_0, .string a0_1, .string a0_2, .int .i64 a0_3, .string a0_4, .string a0_5, .int .i64 a0_6, .int .i64 a0_7, .int .i64 a0_8] 23 (0, 0)) (by (with_reducible repeat (first | refine blk_drewN ?_ _ | refine blk_drew ?_ | refine blk_alloc ?_ _ | refine blk_far ?_ ag.out _)); exact aa.out) hb); replace ab := Aside0.mk (blk_below (g := af) (o := .cells #[.int .i64 t484, .string t485, .string t486, .int .i64 t487, .string t488, .string t489, .int .i64 t490, .int .i64 t491, .int .i64 t492] 23 (0, 0)) (by (with_reducible repeat (first | refine blk_drewN ?_ _ | refine blk_drew ?_ | refine blk_alloc ?_ _)); refine blk_put (cs := #[.int .i64 t484, .string t485, .string t486, .int .i64 t487, .string t488, .string t489, .int .i64 t490, .int .i64 t491, .int .i64 0]) ?_ 8 _ rfl; (with_reducible repeat (first | refine blk_drewN ?_ _ | refine blk_drew ?_ | refine blk_alloc ?_ _)); refine blk_put (cs := #[.int .i64 t484, .string t485, .string t486, .int .i64 t487, .string t488, .string t489, .int .i64 t490, .int .i64 0, .int .i64 0]) ?_ 7 _ rfl; (with_reducible repeat (first | refine blk_drewN ?_ _ | refine blk_drew ?_ | refine blk_alloc ?_ _)); refine blk_put (cs := #[.int .i64 t484, .string t485, .string t486, .int .i64 t487, .string t488, .string t489, .int .i64 0, .int .i64 0, .int .i64 0]) ?_ 6 _ rfl; (with_reducible repeat (first | refine blk_drewN ?_ _ | refine blk_drew ?_ | refine blk_alloc ?_ _)); refine blk_put (cs := #[.int .i64 t484, .string t485, .string t486, .int .i64 t487, .string t488, .string (⟨#[]⟩ : ByteArray), .int .i64 0, .int .i64 0, .int .i64 0]) ?_ 5 _ rfl; (with_reducible repeat (first | refine blk_drewN ?_ _ | refine blk_drew ?_ | refine blk_alloc ?_ _)); refine blk_put (cs := #[.int .i64 t484, .string t485, .string t486, .int .i64 t487, .string (⟨#[]⟩ : ByteArray), .string (⟨#[]⟩ : ByteArray), .int .i64 0, .int .i64 0, .int .i64 0]) ?_ 4 _ rfl; (with_reducible repeat (first | refine blk_drewN ?_ _ | refine blk_drew ?_ | refine blk_alloc ?_ _)); refine blk_put (cs := #[.int .i64 t484, .string t485, .string t486, .int .i64 0, .string (⟨#[]⟩ : ByteArray), .string (⟨#[]⟩ : ByteArray), .int .i64 0, .int .i64 0, .int .i64 0]) ?_ 3 _ rfl; (with_reducible repeat (first | refine blk_drewN ?_ _ | refine blk_drew ?_ | refine blk_alloc ?_ _)); refine blk_put (cs := #[.int .i64 t484, .string t485, .string (⟨#[]⟩ : ByteArray), .int .i64 0, .string (⟨#[]⟩ : ByteArray), .string (⟨#[]⟩ : ByteArray), .int .i64 0, .int .i64 0, .int .i64 0]) ?_ 2 _ rfl; (with_reducible repeat (first | refine blk_drewN ?_ _ | refine blk_drew ?_ | refine blk_alloc ?_ _)); refine blk_put (cs := #[.int .i64 t484, .string (⟨#[]⟩ : ByteArray), .string (⟨#[]⟩ : ByteArray), .int .i64 0, .string (⟨#[]⟩ : ByteArray), .string (⟨#[]⟩ : ByteArray), .int .i64 0, .int .i64 0, .int .i64 0]) ?_ 1 _ rfl; (with_reducible repeat (first | refine blk_drewN ?_ _ | refine blk_drew ?_ | refine blk_alloc ?_ _)); refine blk_put (cs := za1_) ?_ 0 _ rfl; (with_reducible repeat (first | refine blk_drewN ?_ _ | refine blk_drew ?_ | refine blk_alloc ?_ _)); exact ab.out) hb); replace HB := Aside0.mk (below_step bw hb); (try clear hb)) | ((with_reducible refine gate_dst (N := 12) rfl ?_); refine box_event ?hg (N := 12) ?hd (cs := za1_) (t := 23) ?hr ?_; (case hd => rfl); (case hg => rfl); (case hr => first | (go_simp; done) | (go_simp; rfl)); intro ad hg w30 hbox hb; have ac := Aside0.mk (hbox); have GW505 := Aside0.mk ((g1 hg bw : w.heap.size ≤ ad)); have GE505 := Aside0.mk ((g1 hg bw : w.heap.size ≤ ad)); replace HB := Aside0.mk (below_step bw hb); have ah := Aside0.mk ((n1 hg aa.out : ae ≠ ad)); have ak := Aside0.mk ((n2 hg aa.out : ad ≠ ae)); replace aa := Aside0.mk (nb aa.out hb); have ai := Aside0.mk ((n1 hg ab.out : af ≠ ad)); have al := Aside0.mk ((n2 hg ab.out : ad ≠ af)); replace ab := Aside0.mk (nb ab.out hb); clear hb hbox hg; have hnb31 := ak.out; have hnc31 := ah.out; have hnb32 := al.out; have hnc32 := ai.out; obtain ⟨hcz33_0, hcz33_1, hcz33_2, hcz33_3, hcz33_4, hcz33_5, hcz33_6, hcz33_7, hcz33_8, hfz33_0, hfz33_1, hfz33_2, hfz33_3, hfz33_4, hfz33_5, hfz33_6, hfz33_7, hfz33_8⟩ := bx9 ac.out))
  have n0_ : Aside0 ((((((((((w30.setCell ⟨ad, 0, none⟩ (.int .i64 t495)).setCell ⟨ad, 1, none⟩ (.string t496)).setCell ⟨ad, 2, none⟩ (.string t497)).setCell ⟨ad, 3, none⟩ (.int .i64 t498)).setCell ⟨ad, 4, none⟩ (.string t499)).setCell ⟨ad, 5, none⟩ (.string t500)).setCell ⟨ad, 6, none⟩ (.int .i64 t501)).setCell ⟨ad, 7, none⟩ (.int .i64 t502)).setCell ⟨ad, 8, none⟩ (.int .i64 t503)).heap[ae]? = some (.cells #[.int .i64 a0_0, .string a0_1, .string a0_2, .int .i64 a0_3, .string a0_4, .string a0_5, .int .i64 a0_6, .int .i64 a0_7, .int .i64 a0_8] 23 (0, 0))) := ⟨by (with_reducible repeat (first | refine blk_drewN ?_ _ | refine blk_drew ?_ | refine blk_alloc ?_ _ | refine blk_far ?_ ah.out _)); exact aa.out⟩
  have n1_ : Aside0 ((((((((((w30.setCell ⟨ad, 0, none⟩ (.int .i64 t495)).setCell ⟨ad, 1, none⟩ (.string t496)).setCell ⟨ad, 2, none⟩ (.string t497)).setCell ⟨ad, 3, none⟩ (.int .i64 t498)).setCell ⟨ad, 4, none⟩ (.string t499)).setCell ⟨ad, 5, none⟩ (.string t500)).setCell ⟨ad, 6, none⟩ (.int .i64 t501)).setCell ⟨ad, 7, none⟩ (.int .i64 t502)).setCell ⟨ad, 8, none⟩ (.int .i64 t503)).heap[af]? = some (.cells #[.int .i64 t484, .string t485, .string t486, .int .i64 t487, .string t488, .string t489, .int .i64 t490, .int .i64 t491, .int .i64 t492] 23 (0, 0))) := ⟨by (with_reducible repeat (first | refine blk_drewN ?_ _ | refine blk_drew ?_ | refine blk_alloc ?_ _ | refine blk_far ?_ ai.out _)); exact ab.out⟩
  have n2_ : Aside0 ((((((((((w30.setCell ⟨ad, 0, none⟩ (.int .i64 t495)).setCell ⟨ad, 1, none⟩ (.string t496)).setCell ⟨ad, 2, none⟩ (.string t497)).setCell ⟨ad, 3, none⟩ (.int .i64 t498)).setCell ⟨ad, 4, none⟩ (.string t499)).setCell ⟨ad, 5, none⟩ (.string t500)).setCell ⟨ad, 6, none⟩ (.int .i64 t501)).setCell ⟨ad, 7, none⟩ (.int .i64 t502)).setCell ⟨ad, 8, none⟩ (.int .i64 t503)).heap[ad]? = some (.cells #[.int .i64 t495, .string t496, .string t497, .int .i64 t498, .string t499, .string t500, .int .i64 t501, .int .i64 t502, .int .i64 t503] 23 (0, 0))) := ⟨by (with_reducible repeat (first | refine blk_drewN ?_ _ | refine blk_drew ?_ | refine blk_alloc ?_ _)); refine blk_put (cs := #[.int .i64 t495, .string t496, .string t497, .int .i64 t498, .string t499, .string t500, .int .i64 t501, .int .i64 t502, .int .i64 0]) ?_ 8 _ rfl; (with_reducible repeat (first | refine blk_drewN ?_ _ | refine blk_drew ?_ | refine blk_alloc ?_ _)); refine blk_put (cs := #[.int .i64 t495, .string t496, .string t497, .int .i64 t498, .string t499, .string t500, .int .i64 t501, .int .i64 0, .int .i64 0]) ?_ 7 _ rfl; (with_reducible repeat (first | refine blk_drewN ?_ _ | refine blk_drew ?_ | refine blk_alloc ?_ _)); refine blk_put (cs := #[.int .i64 t495, .string t496, .string t497, .int .i64 t498, .string t499, .string t500, .int .i64 0, .int .i64 0, .int .i64 0]) ?_ 6 _ rfl; (with_reducible repeat (first | refine blk_drewN ?_ _ | refine blk_drew ?_ | refine blk_alloc ?_ _)); refine blk_put (cs := #[.int .i64 t495, .string t496, .string t497, .int .i64 t498, .string t499, .string (⟨#[]⟩ : ByteArray), .int .i64 0, .int .i64 0, .int .i64 0]) ?_ 5 _ rfl; (with_reducible repeat (first | refine blk_drewN ?_ _ | refine blk_drew ?_ | refine blk_alloc ?_ _)); refine blk_put (cs := #[.int .i64 t495, .string t496, .string t497, .int .i64 t498, .string (⟨#[]⟩ : ByteArray), .string (⟨#[]⟩ : ByteArray), .int .i64 0, .int .i64 0, .int .i64 0]) ?_ 4 _ rfl; (with_reducible repeat (first | refine blk_drewN ?_ _ | refine blk_drew ?_ | refine blk_alloc ?_ _)); refine blk_put (cs := #[.int .i64 t495, .string t496, .string t497, .int .i64 0, .string (⟨#[]⟩ : ByteArray), .string (⟨#[]⟩ : ByteArray), .int .i64 0, .int .i64 0, .int .i64 0]) ?_ 3 _ rfl; (with_reducible repeat (first | refine blk_drewN ?_ _ | refine blk_drew ?_ | refine blk_alloc ?_ _)); refine blk_put (cs := #[.int .i64 t495, .string t496, .string (⟨#[]⟩ : ByteArray), .int .i64 0, .string (⟨#[]⟩ : ByteArray), .string (⟨#[]⟩ : ByteArray), .int .i64 0, .int .i64 0, .int .i64 0]) ?_ 2 _ rfl; (with_reducible repeat (first | refine blk_drewN ?_ _ | refine blk_drew ?_ | refine blk_alloc ?_ _)); refine blk_put (cs := #[.int .i64 t495, .string (⟨#[]⟩ : ByteArray), .string (⟨#[]⟩ : ByteArray), .int .i64 0, .string (⟨#[]⟩ : ByteArray), .string (⟨#[]⟩ : ByteArray), .int .i64 0, .int .i64 0, .int .i64 0]) ?_ 1 _ rfl; (with_reducible repeat (first | refine blk_drewN ?_ _ | refine blk_drew ?_ | refine blk_alloc ?_ _)); refine blk_put (cs := za1_) ?_ 0 _ rfl; (with_reducible repeat (first | refine blk_drewN ?_ _ | refine blk_drew ?_ | refine blk_alloc ?_ _)); exact ac.out⟩
  have n3_ : Aside0 (Below w.heap.size w (((((((((w30.setCell ⟨ad, 0, none⟩ (.int .i64 t495)).setCell ⟨ad, 1, none⟩ (.string t496)).setCell ⟨ad, 2, none⟩ (.string t497)).setCell ⟨ad, 3, none⟩ (.int .i64 t498)).setCell ⟨ad, 4, none⟩ (.string t499)).setCell ⟨ad, 5, none⟩ (.string t500)).setCell ⟨ad, 6, none⟩ (.int .i64 t501)).setCell ⟨ad, 7, none⟩ (.int .i64 t502)).setCell ⟨ad, 8, none⟩ (.int .i64 t503))) := ⟨bw⟩
  (try clear aa)
  (try clear ab)
  (try clear ac)
  (try clear HB)
  generalize (((((((((w30.setCell ⟨ad, 0, none⟩ (.int .i64 t495)).setCell ⟨ad, 1, none⟩ (.string t496)).setCell ⟨ad, 2, none⟩ (.string t497)).setCell ⟨ad, 3, none⟩ (.int .i64 t498)).setCell ⟨ad, 4, none⟩ (.string t499)).setCell ⟨ad, 5, none⟩ (.string t500)).setCell ⟨ad, 6, none⟩ (.int .i64 t501)).setCell ⟨ad, 7, none⟩ (.int .i64 t502)).setCell ⟨ad, 8, none⟩ (.int .i64 t503)) = w34 at n0_ n1_ n2_ n3_ ⊢
  have aa := n0_
  have ab := n1_
  have ac := n2_
  have HB := n3_
  clear n0_ n1_ n2_ n3_
  replace aa := Aside0.mk (blk_drew aa.out)
  replace ab := Aside0.mk (blk_drew ab.out)
  replace ac := Aside0.mk (blk_drew ac.out)
  replace HB := Aside0.mk (below_drew1 HB.out)
  refine start_ (n := 44) (S := fun w' => w'.cell? ⟨ae, 0, none⟩ = some (.int .i64 a0_0) ∧ w'.cell? ⟨ae, 1, none⟩ = some (.string a0_1) ∧ w'.cell? ⟨ae, 2, none⟩ = some (.string a0_2) ∧ w'.cell? ⟨ae, 3, none⟩ = some (.int .i64 a0_3) ∧ w'.cell? ⟨ae, 4, none⟩ = some (.string a0_4) ∧ w'.cell? ⟨ae, 5, none⟩ = some (.string a0_5) ∧ w'.cell? ⟨ae, 6, none⟩ = some (.int .i64 a0_6) ∧ w'.cell? ⟨ae, 7, none⟩ = some (.int .i64 a0_7) ∧ w'.cell? ⟨ae, 8, none⟩ = some (.int .i64 a0_8) ∧ w'.cell? ⟨af, 0, none⟩ = some (.int .i64 t484) ∧ w'.cell? ⟨af, 1, none⟩ = some (.string t485) ∧ w'.cell? ⟨af, 2, none⟩ = some (.string t486) ∧ w'.cell? ⟨af, 3, none⟩ = some (.int .i64 t487) ∧ w'.cell? ⟨af, 4, none⟩ = some (.string t488) ∧ w'.cell? ⟨af, 5, none⟩ = some (.string t489) ∧ w'.cell? ⟨af, 6, none⟩ = some (.int .i64 t490) ∧ w'.cell? ⟨af, 7, none⟩ = some (.int .i64 t491) ∧ w'.cell? ⟨af, 8, none⟩ = some (.int .i64 t492) ∧ w'.cell? ⟨ad, 0, none⟩ = some (.int .i64 t495) ∧ w'.cell? ⟨ad, 1, none⟩ = some (.string t496) ∧ w'.cell? ⟨ad, 2, none⟩ = some (.string t497) ∧ w'.cell? ⟨ad, 3, none⟩ = some (.int .i64 t498) ∧ w'.cell? ⟨ad, 4, none⟩ = some (.string t499) ∧ w'.cell? ⟨ad, 5, none⟩ = some (.string t500) ∧ w'.cell? ⟨ad, 6, none⟩ = some (.int .i64 t501) ∧ w'.cell? ⟨ad, 7, none⟩ = some (.int .i64 t502) ∧ w'.cell? ⟨ad, 8, none⟩ = some (.int .i64 t503)) (ds := []) (bz 44 0) (by kernel_rfl) rfl rfl (by and_intros <;> first | exact (blk_cell aa.out _).trans rfl | exact (blk_cell ab.out _).trans rfl | exact (blk_cell ac.out _).trans rfl) (fun hHeld => ?_); refine with_tabW carillonlaw14_CommandBytes.tab6 carillonlaw14_CommandBytes.bits6 (fun HT_ HW_ => ?_)
  generalize w34.drew = w35 at aa ab ac HB hHeld ⊢
  refine pu_ 0 (some 35) (bz 44 1) HT_.out ?_
  refine pu_ 1 (some 36) (bz 44 3) HT_.out ?_
  refine take_ (i := 2) (N := some 37) (v := ?_) (a' := ?_) (bz 44 7) rfl rfl (take_ofW HT_.out HW_.out (by kernel_rfl)) (fun _ _ _ h => h) (Or.inl ⟨by rfl, ?_⟩) hHeld ?_ ?_
  rotate_left
  ·rintro w' ⟨s0, s1, s2, s3, s4, s5, s6, s7, s8, s9, s10, s11, s12, s13, s14, s15, s16, s17, s18, s19, s20, s21, s22, s23, s24, s25, s26⟩
   go_simp
   with_reducible rfl
  rotate_left
  ·simp only [Act.put, sl1, sl2, sl3, i64_w, i32_w]
   rfl
  refine take_ (i := 4) (N := some 39) (v := ?_) (a' := ?_) (bz 44 23) rfl rfl (take_ofW HT_.out HW_.out (by kernel_rfl)) (fun _ _ _ h => h) (Or.inl ⟨by rfl, ?_⟩) hHeld ?_ ?_
  rotate_left
  ·rintro w' ⟨s0, s1, s2, s3, s4, s5, s6, s7, s8, s9, s10, s11, s12, s13, s14, s15, s16, s17, s18, s19, s20, s21, s22, s23, s24, s25, s26⟩
   go_simp
   with_reducible rfl
  rotate_left
  ·simp only [Act.put, sl1, sl2, sl3, i64_w, i32_w]
   rfl
  refine one_ (i := 3) (N := some 38) (bz 44 31) rfl rfl (one_of HT_.out (by kernel_rfl)) (by decide) (fun K hK => ?_)
  refine goes_ Tryd.func16 (by kernel_rfl) rfl #[.agg #[.int .i64 a0_0, .string a0_1, .string a0_2, .int .i64 a0_3, .string a0_4, .string a0_5, .int .i64 a0_6, .int .i64 a0_7, .int .i64 a0_8]] (by rfl) rfl rfl am ?_
  with_reducible refine (command_Right.calls a0_0 a0_1 a0_2 a0_3 a0_4 a0_5 a0_6 a0_7 a0_8 t506 _ A9.out).mono ?_
  rintro e w36 ⟨rfl, hb⟩
  refine ⟨_, rfl, ?_⟩
  replace aa := Aside0.mk (nb aa.out hb)
  replace ab := Aside0.mk (nb ab.out hb)
  replace ac := Aside0.mk (nb ac.out hb)
  replace HB := Aside0.mk (below_step bw hb)
  (try clear hb)
  (try clear hb2)
  (try clear hk)
  (try clear hi)
  refine hK.out _ _ (by and_intros <;> first | exact (blk_cell aa.out _).trans rfl | exact (blk_cell ab.out _).trans rfl | exact (blk_cell ac.out _).trans rfl) (fun hHeld => ?_)
  clear hK K
  refine norm_ (a' := ?_) ?_ ?_
  rotate_left
  ·show Act.put _ (some 38) _ = _
   simp only [Act.put, sl1, sl2, sl3, i64_w, i32_w]
   rfl
  refine one_ (i := 5) (N := some 40) (bz 44 63) rfl rfl (one_of HT_.out (by kernel_rfl)) (by decide) (fun K hK => ?_)
  refine goes_ Tryd.func17 (by kernel_rfl) rfl #[.agg #[.int .i64 a0_0, .string a0_1, .string a0_2, .int .i64 a0_3, .string a0_4, .string a0_5, .int .i64 a0_6, .int .i64 a0_7, .int .i64 a0_8]] (by rfl) rfl rfl am ?_
  with_reducible refine (carillonref14_Right.calls k a0_0 a0_1 a0_2 a0_3 a0_4 a0_5 a0_6 a0_7 a0_8 t507 _ A10.out).mono ?_
  rintro e w37 ⟨rfl, hb⟩
  refine ⟨_, rfl, ?_⟩
  replace aa := Aside0.mk (nb aa.out hb)
  replace ab := Aside0.mk (nb ab.out hb)
  replace ac := Aside0.mk (nb ac.out hb)
  replace HB := Aside0.mk (below_step bw hb)
  (try clear hb)
  (try clear hb2)
  (try clear hk)
  (try clear hi)
  refine hK.out _ _ (by and_intros <;> first | exact (blk_cell aa.out _).trans rfl | exact (blk_cell ab.out _).trans rfl | exact (blk_cell ac.out _).trans rfl) (fun hHeld => ?_)
  clear hK K
  refine norm_ (a' := ?_) ?_ ?_
  rotate_left
  ·show Act.put _ (some 40) _ = _
   simp only [Act.put, sl1, sl2, sl3, i64_w, i32_w]
   rfl
  refine pu_ 6 (some 41) (bz 44 127) HT_.out ?_
  refine pu_ 7 (some 42) (bz 44 255) HT_.out ?_
  refine pu_ 8 (some 43) (bz 44 511) HT_.out ?_
  refine pu_ 9 (some 44) (bz 44 1023) HT_.out ?_
  refine pu_ 10 (some 45) (bz 44 2047) HT_.out ?_
  refine pu_ 11 (some 46) (bz 44 4095) HT_.out ?_
  refine pu_ 12 (some 47) (bz 44 8191) HT_.out ?_
  refine pu_ 13 (some 48) (bz 44 16383) HT_.out ?_
  refine pu_ 14 (some 49) (bz 44 32767) HT_.out ?_
  refine pu_ 15 (some 50) (bz 44 65535) HT_.out ?_
  refine pu_ 16 (some 51) (bz 44 131071) HT_.out ?_
  refine pu_ 17 (some 52) (bz 44 262143) HT_.out ?_
  refine pu_ 18 (some 53) (bz 44 524287) HT_.out ?_
  refine pu_ 19 (some 54) (bz 44 1048575) HT_.out ?_
  refine pu_ 20 (some 55) (bz 44 2097151) HT_.out ?_
  refine pu_ 21 (some 56) (bz 44 4194303) HT_.out ?_
  refine pure_ (i := 22) (N := some 57) (v := undef) (a' := ?_) (bz 44 8388607) rfl rfl (any_of HT_.out (by kernel_rfl)) (fun _ _ _ h => h) (Or.inr ⟨by rfl, rfl⟩) ?_ ?_
  rotate_left
  ·simp only [Act.put, sl1, sl2, sl3, i64_w, i32_w]
   rfl
  refine pure_ (i := 23) (N := some 58) (v := undef) (a' := ?_) (bz 44 16777215) rfl rfl (any_of HT_.out (by kernel_rfl)) (fun _ _ _ h => h) (Or.inr ⟨by rfl, rfl⟩) ?_ ?_
  rotate_left
  ·simp only [Act.put, sl1, sl2, sl3, i64_w, i32_w]
   rfl
  refine pu_ 24 (some 59) (bz 44 33554431) HT_.out ?_
  refine pu_ 25 (some 60) (bz 44 67108863) HT_.out ?_
  refine pu_ 26 (some 61) (bz 44 134217727) HT_.out ?_
  refine take_ (i := 27) (N := some 62) (v := ?_) (a' := ?_) (bz 44 268435455) rfl rfl (take_ofW HT_.out HW_.out (by kernel_rfl)) (fun _ _ _ h => h) (Or.inl ⟨by rfl, ?_⟩) hHeld ?_ ?_
  rotate_left
  ·rintro w' ⟨s0, s1, s2, s3, s4, s5, s6, s7, s8, s9, s10, s11, s12, s13, s14, s15, s16, s17, s18, s19, s20, s21, s22, s23, s24, s25, s26⟩
   go_simp
   with_reducible rfl
  rotate_left
  ·simp only [Act.put, sl1, sl2, sl3, i64_w, i32_w]
   rfl
  refine take_ (i := 28) (N := some 63) (v := ?_) (a' := ?_) (bz 44 536870911) rfl rfl (take_ofW HT_.out HW_.out (by kernel_rfl)) (fun _ _ _ h => h) (Or.inl ⟨by rfl, ?_⟩) hHeld ?_ ?_
  rotate_left
  ·rintro w' ⟨s0, s1, s2, s3, s4, s5, s6, s7, s8, s9, s10, s11, s12, s13, s14, s15, s16, s17, s18, s19, s20, s21, s22, s23, s24, s25, s26⟩
   go_simp
   with_reducible rfl
  rotate_left
  ·simp only [Act.put, sl1, sl2, sl3, i64_w, i32_w]
   rfl
  refine pu_ 29 (some 64) (bz 44 1073741823) HT_.out ?_
  refine pu_ 30 (some 65) (bz 44 2147483647) HT_.out ?_
  refine pu_ 31 (some 66) (bz 44 4294967295) HT_.out ?_
  refine pu_ 32 (some 67) (bz 44 8589934591) HT_.out ?_
  refine pu_ 33 (some 68) (bz 44 17179869183) HT_.out ?_
  refine pu_ 34 (some 69) (bz 44 34359738367) HT_.out ?_
  refine pu_ 35 (some 70) (bz 44 68719476735) HT_.out ?_
  refine pu_ 36 (some 71) (bz 44 137438953471) HT_.out ?_
  refine pu_ 37 (some 72) (bz 44 274877906943) HT_.out ?_
  refine pu_ 39 (some 74) (bz 44 824633720831) HT_.out ?_
  refine one_ (i := 38) (N := some 73) (bz 44 1099511627775) rfl rfl (one_of HT_.out (by kernel_rfl)) (by decide) (fun K hK => ?_)
  refine goes_ Tryd.func18 (by kernel_rfl) rfl #[.string a1] (by rfl) rfl rfl am ?_
  with_reducible refine (command_Word.calls a1 t508 _ A17.out).mono ?_
  rintro e w38 ⟨rfl, hb⟩
  refine ⟨_, rfl, ?_⟩
  replace aa := Aside0.mk (nb aa.out hb)
  replace ab := Aside0.mk (nb ab.out hb)
  replace ac := Aside0.mk (nb ac.out hb)
  replace HB := Aside0.mk (below_step bw hb)
  (try clear hb)
  (try clear hb2)
  (try clear hk)
  (try clear hi)
  refine hK.out _ _ (by and_intros <;> first | exact (blk_cell aa.out _).trans rfl | exact (blk_cell ab.out _).trans rfl | exact (blk_cell ac.out _).trans rfl) (fun hHeld => ?_)
  clear hK K
  refine norm_ (a' := ?_) ?_ ?_
  rotate_left
  ·show Act.put _ (some 73) _ = _
   simp only [Act.put, sl1, sl2, sl3, i64_w, i32_w]
   rfl
  refine one_ (i := 40) (N := some 75) (bz 44 2199023255551) rfl rfl (one_of HT_.out (by kernel_rfl)) (by decide) (fun K hK => ?_)
  refine goes_ Tryd.func19 (by kernel_rfl) rfl #[.string a1] (by rfl) rfl rfl am ?_
  with_reducible refine (carillonref14_Word.calls k a1 t509 _ A18.out).mono ?_
  rintro e w' ⟨rfl, ⟨nd, rfl⟩⟩
  refine ⟨_, rfl, ?_⟩
  refine hK.out _ _ (by and_intros <;> first | exact (blk_cell aa.out _).trans rfl | exact (blk_cell ab.out _).trans rfl | exact (blk_cell ac.out _).trans rfl) (fun hHeld => ?_)
  clear hK K
  refine norm_ (a' := ?_) ?_ ?_
  rotate_left
  ·show Act.put _ (some 75) _ = _
   simp only [Act.put, sl1, sl2, sl3, i64_w, i32_w]
   rfl
  refine pu_ 41 (some 76) (bz 44 4398046511103) HT_.out ?_
  refine pu_ 42 (some 77) (bz 44 8796093022207) HT_.out ?_
  refine pu_ 43 (some 4) (bz 44 17592186044415) HT_.out ?_
  refine done_ (done_of HT_.out (by kernel_rfl)) ?_
  try go_wp2
  go_ret
  exact ⟨er, bw⟩
 replace c14 := Bool.eq_false_iff.mpr c14
 subst c14
 have H1 : (if t481 = 1 then (if (t484 == t495 && (t485.toList == t496.toList && (t486.toList == t497.toList && (t487 == t498 && (t488.toList == t499.toList && (t489.toList == t500.toList && (t490 == t501 && (t491 == t502 && (t492 == t503))))))))) = true then (if t493 = t504 then ((command_Word.f a1).bind fun t510 => ((carillonref14_Word.f k a1).bind fun t511 => (some (t510 == t511)))) else (some false)) else (some false)) else (some false)) = some r := by rw [if_neg (show ¬ (false = true) by decide)] at H; exact H
 clear H
 have H := H1
 clear H1
 by_cases c39 : t481 = 1; rotate_left
 ·rw [if_neg c39] at H
  have c39b0 : (t481 == 1) = false := beq_eq_false_iff_ne.mpr c39
  have c39b1 : (t481 != 1) = true := bne_iff_ne.mpr c39
  exact absurd ((Option.some.inj H).trans hr_.out) (by decide)
 rw [if_pos c39] at H
 have c39b0 : (t481 == 1) = true := beq_iff_eq.mpr c39
 have c39b1 : (t481 != 1) = false := bne_eq_false_iff_eq.mpr c39
 clear c39
 by_cases c40 : (t484 == t495 && (t485.toList == t496.toList && (t486.toList == t497.toList && (t487 == t498 && (t488.toList == t499.toList && (t489.toList == t500.toList && (t490 == t501 && (t491 == t502 && (t492 == t503))))))))) = true; rotate_left
 ·rw [if_neg c40] at H
  have c40b0 : (t484 == t495 && (t485.toList == t496.toList && (t486.toList == t497.toList && (t487 == t498 && (t488.toList == t499.toList && (t489.toList == t500.toList && (t490 == t501 && (t491 == t502 && (t492 == t503))))))))) = false := by simpa using c40
  (try (have c40b1 : decide (t484 = t495 && (t485.toList == t496.toList && (t486.toList == t497.toList && (t487 == t498 && (t488.toList == t499.toList && (t489.toList == t500.toList && (t490 == t501 && (t491 == t502 && (t492 == t503))))))))) = false := by simpa using c40))
  (try (have c40b2 : (t484 == t495 && (t485.toList == t496.toList && (t486.toList == t497.toList && (t487 == t498 && (t488.toList == t499.toList && (t489.toList == t500.toList && (t490 == t501 && (t491 == t502 && (t492 == t503))))))))) = false := by simpa using c40))
  (try (have c40b3 : ¬ (t484 = t495 && (t485.toList == t496.toList && (t486.toList == t497.toList && (t487 == t498 && (t488.toList == t499.toList && (t489.toList == t500.toList && (t490 == t501 && (t491 == t502 && (t492 == t503))))))))) := by simpa using c40))
  (try (have c40b4 : (!(t484 == t495) || (!(t485.toList == t496.toList) || (!(t486.toList == t497.toList) || (!(t487 == t498) || (!(t488.toList == t499.toList) || (!(t489.toList == t500.toList) || (!(t490 == t501) || (!(t491 == t502) || (!(t492 == t503)))))))))) = true := by have e_ : (!(t484 == t495) || (!(t485.toList == t496.toList) || (!(t486.toList == t497.toList) || (!(t487 == t498) || (!(t488.toList == t499.toList) || (!(t489.toList == t500.toList) || (!(t490 == t501) || (!(t491 == t502) || (!(t492 == t503)))))))))) = (!(t484 == t495 && (t485.toList == t496.toList && (t486.toList == t497.toList && (t487 == t498 && (t488.toList == t499.toList && (t489.toList == t500.toList && (t490 == t501 && (t491 == t502 && (t492 == t503)))))))))) := (by simp only [Bool.not_or, Bool.not_and, Bool.not_not]); rw [e_]; first | (simp only [c40, Bool.not_true]; done) | (simp only [Bool.eq_false_iff.mpr c40, Bool.not_false]; done)))
  clear c40
  exact absurd ((Option.some.inj H).trans hr_.out) (by decide)
 rw [if_pos c40] at H
 have c40b0 : (t484 == t495 && (t485.toList == t496.toList && (t486.toList == t497.toList && (t487 == t498 && (t488.toList == t499.toList && (t489.toList == t500.toList && (t490 == t501 && (t491 == t502 && (t492 == t503))))))))) = true := c40
 (try (have c40b1 : decide (t484 = t495 && (t485.toList == t496.toList && (t486.toList == t497.toList && (t487 == t498 && (t488.toList == t499.toList && (t489.toList == t500.toList && (t490 == t501 && (t491 == t502 && (t492 == t503))))))))) = true := by simpa using c40))
 (try (have c40b2 : (t484 == t495 && (t485.toList == t496.toList && (t486.toList == t497.toList && (t487 == t498 && (t488.toList == t499.toList && (t489.toList == t500.toList && (t490 == t501 && (t491 == t502 && (t492 == t503))))))))) = true := by simpa using c40))
 (try (have c40b3 : (!(t484 == t495) || (!(t485.toList == t496.toList) || (!(t486.toList == t497.toList) || (!(t487 == t498) || (!(t488.toList == t499.toList) || (!(t489.toList == t500.toList) || (!(t490 == t501) || (!(t491 == t502) || (!(t492 == t503)))))))))) = false := by have e_ : (!(t484 == t495) || (!(t485.toList == t496.toList) || (!(t486.toList == t497.toList) || (!(t487 == t498) || (!(t488.toList == t499.toList) || (!(t489.toList == t500.toList) || (!(t490 == t501) || (!(t491 == t502) || (!(t492 == t503)))))))))) = (!(t484 == t495 && (t485.toList == t496.toList && (t486.toList == t497.toList && (t487 == t498 && (t488.toList == t499.toList && (t489.toList == t500.toList && (t490 == t501 && (t491 == t502 && (t492 == t503)))))))))) := (by simp only [Bool.not_or, Bool.not_and, Bool.not_not]); rw [e_]; first | (simp only [c40, Bool.not_true]; done) | (simp only [Bool.eq_false_iff.mpr c40, Bool.not_false]; done)))
 clear c40
 by_cases c41 : t493 = t504; rotate_left
 ·rw [if_neg c41] at H
  have c41b0 : (t493 == t504) = false := beq_eq_false_iff_ne.mpr c41
  have c41b1 : (t493 != t504) = true := bne_iff_ne.mpr c41
  exact absurd ((Option.some.inj H).trans hr_.out) (by decide)
 rw [if_pos c41] at H
 have c41b0 : (t493 == t504) = true := beq_iff_eq.mpr c41
 have c41b1 : (t493 != t504) = false := bne_eq_false_iff_eq.mpr c41
 clear c41
 replace H := Option.bind_eq_some_iff.mp H
 obtain ⟨t510, A420, H⟩ := H
 have A42 := Aside0.mk A420
 clear A420
 replace H := Option.bind_eq_some_iff.mp H
 obtain ⟨t511, A430, H⟩ := H
 have A43 := Aside0.mk A430
 clear A430
 obtain rfl := Option.some.inj H
 go_enter Tryd.func3, Tryd.ntmps3
 try go_wp2_with (first | ((with_reducible refine gate_dst (N := 2) rfl ?_); refine box_event ?hg (N := 2) ?hd (cs := #[.int .i64 a0_0, .string a0_1, .string a0_2, .int .i64 a0_3, .string a0_4, .string a0_5, .int .i64 a0_6, .int .i64 a0_7, .int .i64 a0_8]) (t := 23) ?hr ?_; (case hd => rfl); (case hg => rfl); (case hr => first | (go_simp; done) | (go_simp; rfl)); intro ae hg w44 hbox hb; have aa := Aside0.mk (hbox); have GW478 := Aside0.mk ((g1 hg bw : w.heap.size ≤ ae)); have GE478 := Aside0.mk ((g1 hg bw : w.heap.size ≤ ae)); replace HB := Aside0.mk (below_step bw hb); clear hb hbox hg) | ((with_reducible refine gate_callee (f := 11) rfl ?_); refine goesL_ (some 14) rfl rfl Tryd.func11 (by kernel_rfl) rfl #[] rfl am ?_; (with_reducible refine (carillonlaw14_examples.calls  true _ tbk A3.out).mono ?_); rintro e w45 ⟨rfl, hb⟩; refine ⟨_, rfl, ?_⟩; replace aa := Aside0.mk (nb aa.out hb); replace HB := Aside0.mk (below_step bw hb); (try clear hb); obtain ⟨hcz46_0, hcz46_1, hcz46_2, hcz46_3, hcz46_4, hcz46_5, hcz46_6, hcz46_7, hcz46_8, hfz46_0, hfz46_1, hfz46_2, hfz46_3, hfz46_4, hfz46_5, hfz46_6, hfz46_7, hfz46_8⟩ := bx9 aa.out) | ((with_reducible refine gate_callee (f := 12) rfl ?_); refine goesL_ (some 17) rfl rfl Tryd.func12 (by kernel_rfl) rfl #[.agg #[.int .i64 a0_0, .string a0_1, .string a0_2, .int .i64 a0_3, .string a0_4, .string a0_5, .int .i64 a0_6, .int .i64 a0_7, .int .i64 a0_8]] rfl am ?_; (with_reducible refine (command_Encode.calls k a0_0 a0_1 a0_2 a0_3 a0_4 a0_5 a0_6 a0_7 a0_8 t480 t481 _ tbk A4.out).mono ?_); rintro e w47 ⟨rfl, hb⟩; refine ⟨_, rfl, ?_⟩; replace aa := Aside0.mk (nb aa.out hb); replace HB := Aside0.mk (below_step bw hb); (try clear hb); obtain ⟨hcz48_0, hcz48_1, hcz48_2, hcz48_3, hcz48_4, hcz48_5, hcz48_6, hcz48_7, hcz48_8, hfz48_0, hfz48_1, hfz48_2, hfz48_3, hfz48_4, hfz48_5, hfz48_6, hfz48_7, hfz48_8⟩ := bx9 aa.out) | ((with_reducible refine gate_callee (f := 13) rfl ?_); refine goesL_ (some 22) rfl rfl Tryd.func13 (by kernel_rfl) rfl #[.agg #[.int .i64 a0_0, .string a0_1, .string a0_2, .int .i64 a0_3, .string a0_4, .string a0_5, .int .i64 a0_6, .int .i64 a0_7, .int .i64 a0_8]] rfl am ?_; (with_reducible refine (carillonref14_Encode.calls k a0_0 a0_1 a0_2 a0_3 a0_4 a0_5 a0_6 a0_7 a0_8 t482 false _ A5.out).mono ?_); rintro e w49 ⟨rfl, hb⟩; refine ⟨_, rfl, ?_⟩; replace aa := Aside0.mk (nb aa.out hb); replace HB := Aside0.mk (below_step bw hb); (try clear hb)) | ((with_reducible refine gate_callee (f := 14) rfl ?_); refine goesL_ (some 27) rfl rfl Tryd.func14 (by kernel_rfl) rfl #[.string a1] rfl am ?_; (with_reducible refine (command_Decode.calls k a1 t484 t485 t486 t487 t488 t489 t490 t491 t492 t493 _ tbk A6.out).mono ?_); rintro e w50 ⟨rfl, hb⟩; refine ⟨_, rfl, ?_⟩; replace aa := Aside0.mk (nb aa.out hb); replace HB := Aside0.mk (below_step bw hb); (try clear hb)) | ((with_reducible refine gate_dst (N := 10) rfl ?_); refine box_event ?hg (N := 10) ?hd (cs := za1_) (t := 23) ?hr ?_; (case hd => rfl); (case hg => rfl); (case hr => first | (go_simp; done) | (go_simp; rfl)); intro af hg w51 hbox hb; have ab := Aside0.mk (hbox); have GW494 := Aside0.mk ((g1 hg bw : w.heap.size ≤ af)); have GE494 := Aside0.mk ((g1 hg bw : w.heap.size ≤ af)); replace HB := Aside0.mk (below_step bw hb); have ag := Aside0.mk ((n1 hg aa.out : ae ≠ af)); have aj := Aside0.mk ((n2 hg aa.out : af ≠ ae)); replace aa := Aside0.mk (nb aa.out hb); clear hb hbox hg; have hnb52 := aj.out; have hnc52 := ag.out; obtain ⟨hcz53_0, hcz53_1, hcz53_2, hcz53_3, hcz53_4, hcz53_5, hcz53_6, hcz53_7, hcz53_8, hfz53_0, hfz53_1, hfz53_2, hfz53_3, hfz53_4, hfz53_5, hfz53_6, hfz53_7, hfz53_8⟩ := bx9 ab.out) | ((with_reducible refine gate_callee (f := 15) rfl ?_); refine goesL_ (some 32) rfl rfl Tryd.func15 (by kernel_rfl) rfl #[.string a1] rfl am ?_; (with_reducible refine (carillonref14_Decode.calls k a1 t495 t496 t497 t498 t499 t500 t501 t502 t503 t504 _ A7.out).mono ?_); rintro e w54 ⟨rfl, hb⟩; refine ⟨_, rfl, ?_⟩; replace aa := Aside0.mk (blk_below (g := ae) (o := .cells #[.int .i64 a0_0, .string a0_1, .string a0_2, .int .i64 a0_3, .string a0_4, .string a0_5, .int .i64 a0_6, .int .i64 a0_7, .int .i64 a0_8] 23 (0, 0)) (by (with_reducible repeat (first | refine blk_drewN ?_ _ | refine blk_drew ?_ | refine blk_alloc ?_ _ | refine blk_far ?_ ag.out _)); exact aa.out) hb); replace ab := Aside0.mk (blk_below (g := af) (o := .cells #[.int .i64 t484, .string t485, .string t486, .int .i64 t487, .string t488, .string t489, .int .i64 t490, .int .i64 t491, .int .i64 t492] 23 (0, 0)) (by (with_reducible repeat (first | refine blk_drewN ?_ _ | refine blk_drew ?_ | refine blk_alloc ?_ _)); refine blk_put (cs := #[.int .i64 t484, .string t485, .string t486, .int .i64 t487, .string t488, .string t489, .int .i64 t490, .int .i64 t491, .int .i64 0]) ?_ 8 _ rfl; (with_reducible repeat (first | refine blk_drewN ?_ _ | refine blk_drew ?_ | refine blk_alloc ?_ _)); refine blk_put (cs := #[.int .i64 t484, .string t485, .string t486, .int .i64 t487, .string t488, .string t489, .int .i64 t490, .int .i64 0, .int .i64 0]) ?_ 7 _ rfl; (with_reducible repeat (first | refine blk_drewN ?_ _ | refine blk_drew ?_ | refine blk_alloc ?_ _)); refine blk_put (cs := #[.int .i64 t484, .string t485, .string t486, .int .i64 t487, .string t488, .string t489, .int .i64 0, .int .i64 0, .int .i64 0]) ?_ 6 _ rfl; (with_reducible repeat (first | refine blk_drewN ?_ _ | refine blk_drew ?_ | refine blk_alloc ?_ _)); refine blk_put (cs := #[.int .i64 t484, .string t485, .string t486, .int .i64 t487, .string t488, .string (⟨#[]⟩ : ByteArray), .int .i64 0, .int .i64 0, .int .i64 0]) ?_ 5 _ rfl; (with_reducible repeat (first | refine blk_drewN ?_ _ | refine blk_drew ?_ | refine blk_alloc ?_ _)); refine blk_put (cs := #[.int .i64 t484, .string t485, .string t486, .int .i64 t487, .string (⟨#[]⟩ : ByteArray), .string (⟨#[]⟩ : ByteArray), .int .i64 0, .int .i64 0, .int .i64 0]) ?_ 4 _ rfl; (with_reducible repeat (first | refine blk_drewN ?_ _ | refine blk_drew ?_ | refine blk_alloc ?_ _)); refine blk_put (cs := #[.int .i64 t484, .string t485, .string t486, .int .i64 0, .string (⟨#[]⟩ : ByteArray), .string (⟨#[]⟩ : ByteArray), .int .i64 0, .int .i64 0, .int .i64 0]) ?_ 3 _ rfl; (with_reducible repeat (first | refine blk_drewN ?_ _ | refine blk_drew ?_ | refine blk_alloc ?_ _)); refine blk_put (cs := #[.int .i64 t484, .string t485, .string (⟨#[]⟩ : ByteArray), .int .i64 0, .string (⟨#[]⟩ : ByteArray), .string (⟨#[]⟩ : ByteArray), .int .i64 0, .int .i64 0, .int .i64 0]) ?_ 2 _ rfl; (with_reducible repeat (first | refine blk_drewN ?_ _ | refine blk_drew ?_ | refine blk_alloc ?_ _)); refine blk_put (cs := #[.int .i64 t484, .string (⟨#[]⟩ : ByteArray), .string (⟨#[]⟩ : ByteArray), .int .i64 0, .string (⟨#[]⟩ : ByteArray), .string (⟨#[]⟩ : ByteArray), .int .i64 0, .int .i64 0, .int .i64 0]) ?_ 1 _ rfl; (with_reducible repeat (first | refine blk_drewN ?_ _ | refine blk_drew ?_ | refine blk_alloc ?_ _)); refine blk_put (cs := za1_) ?_ 0 _ rfl; (with_reducible repeat (first | refine blk_drewN ?_ _ | refine blk_drew ?_ | refine blk_alloc ?_ _)); exact ab.out) hb); replace HB := Aside0.mk (below_step bw hb); (try clear hb)) | ((with_reducible refine gate_dst (N := 12) rfl ?_); refine box_event ?hg (N := 12) ?hd (cs := za1_) (t := 23) ?hr ?_; (case hd => rfl); (case hg => rfl); (case hr => first | (go_simp; done) | (go_simp; rfl)); intro ad hg w55 hbox hb; have ac := Aside0.mk (hbox); have GW505 := Aside0.mk ((g1 hg bw : w.heap.size ≤ ad)); have GE505 := Aside0.mk ((g1 hg bw : w.heap.size ≤ ad)); replace HB := Aside0.mk (below_step bw hb); have ah := Aside0.mk ((n1 hg aa.out : ae ≠ ad)); have ak := Aside0.mk ((n2 hg aa.out : ad ≠ ae)); replace aa := Aside0.mk (nb aa.out hb); have ai := Aside0.mk ((n1 hg ab.out : af ≠ ad)); have al := Aside0.mk ((n2 hg ab.out : ad ≠ af)); replace ab := Aside0.mk (nb ab.out hb); clear hb hbox hg; have hnb56 := ak.out; have hnc56 := ah.out; have hnb57 := al.out; have hnc57 := ai.out; obtain ⟨hcz58_0, hcz58_1, hcz58_2, hcz58_3, hcz58_4, hcz58_5, hcz58_6, hcz58_7, hcz58_8, hfz58_0, hfz58_1, hfz58_2, hfz58_3, hfz58_4, hfz58_5, hfz58_6, hfz58_7, hfz58_8⟩ := bx9 ac.out))
 have n0_ : Aside0 ((((((((((w55.setCell ⟨ad, 0, none⟩ (.int .i64 t495)).setCell ⟨ad, 1, none⟩ (.string t496)).setCell ⟨ad, 2, none⟩ (.string t497)).setCell ⟨ad, 3, none⟩ (.int .i64 t498)).setCell ⟨ad, 4, none⟩ (.string t499)).setCell ⟨ad, 5, none⟩ (.string t500)).setCell ⟨ad, 6, none⟩ (.int .i64 t501)).setCell ⟨ad, 7, none⟩ (.int .i64 t502)).setCell ⟨ad, 8, none⟩ (.int .i64 t503)).heap[ae]? = some (.cells #[.int .i64 a0_0, .string a0_1, .string a0_2, .int .i64 a0_3, .string a0_4, .string a0_5, .int .i64 a0_6, .int .i64 a0_7, .int .i64 a0_8] 23 (0, 0))) := ⟨by (with_reducible repeat (first | refine blk_drewN ?_ _ | refine blk_drew ?_ | refine blk_alloc ?_ _ | refine blk_far ?_ ah.out _)); exact aa.out⟩
 have n1_ : Aside0 ((((((((((w55.setCell ⟨ad, 0, none⟩ (.int .i64 t495)).setCell ⟨ad, 1, none⟩ (.string t496)).setCell ⟨ad, 2, none⟩ (.string t497)).setCell ⟨ad, 3, none⟩ (.int .i64 t498)).setCell ⟨ad, 4, none⟩ (.string t499)).setCell ⟨ad, 5, none⟩ (.string t500)).setCell ⟨ad, 6, none⟩ (.int .i64 t501)).setCell ⟨ad, 7, none⟩ (.int .i64 t502)).setCell ⟨ad, 8, none⟩ (.int .i64 t503)).heap[af]? = some (.cells #[.int .i64 t484, .string t485, .string t486, .int .i64 t487, .string t488, .string t489, .int .i64 t490, .int .i64 t491, .int .i64 t492] 23 (0, 0))) := ⟨by (with_reducible repeat (first | refine blk_drewN ?_ _ | refine blk_drew ?_ | refine blk_alloc ?_ _ | refine blk_far ?_ ai.out _)); exact ab.out⟩
 have n2_ : Aside0 ((((((((((w55.setCell ⟨ad, 0, none⟩ (.int .i64 t495)).setCell ⟨ad, 1, none⟩ (.string t496)).setCell ⟨ad, 2, none⟩ (.string t497)).setCell ⟨ad, 3, none⟩ (.int .i64 t498)).setCell ⟨ad, 4, none⟩ (.string t499)).setCell ⟨ad, 5, none⟩ (.string t500)).setCell ⟨ad, 6, none⟩ (.int .i64 t501)).setCell ⟨ad, 7, none⟩ (.int .i64 t502)).setCell ⟨ad, 8, none⟩ (.int .i64 t503)).heap[ad]? = some (.cells #[.int .i64 t495, .string t496, .string t497, .int .i64 t498, .string t499, .string t500, .int .i64 t501, .int .i64 t502, .int .i64 t503] 23 (0, 0))) := ⟨by (with_reducible repeat (first | refine blk_drewN ?_ _ | refine blk_drew ?_ | refine blk_alloc ?_ _)); refine blk_put (cs := #[.int .i64 t495, .string t496, .string t497, .int .i64 t498, .string t499, .string t500, .int .i64 t501, .int .i64 t502, .int .i64 0]) ?_ 8 _ rfl; (with_reducible repeat (first | refine blk_drewN ?_ _ | refine blk_drew ?_ | refine blk_alloc ?_ _)); refine blk_put (cs := #[.int .i64 t495, .string t496, .string t497, .int .i64 t498, .string t499, .string t500, .int .i64 t501, .int .i64 0, .int .i64 0]) ?_ 7 _ rfl; (with_reducible repeat (first | refine blk_drewN ?_ _ | refine blk_drew ?_ | refine blk_alloc ?_ _)); refine blk_put (cs := #[.int .i64 t495, .string t496, .string t497, .int .i64 t498, .string t499, .string t500, .int .i64 0, .int .i64 0, .int .i64 0]) ?_ 6 _ rfl; (with_reducible repeat (first | refine blk_drewN ?_ _ | refine blk_drew ?_ | refine blk_alloc ?_ _)); refine blk_put (cs := #[.int .i64 t495, .string t496, .string t497, .int .i64 t498, .string t499, .string (⟨#[]⟩ : ByteArray), .int .i64 0, .int .i64 0, .int .i64 0]) ?_ 5 _ rfl; (with_reducible repeat (first | refine blk_drewN ?_ _ | refine blk_drew ?_ | refine blk_alloc ?_ _)); refine blk_put (cs := #[.int .i64 t495, .string t496, .string t497, .int .i64 t498, .string (⟨#[]⟩ : ByteArray), .string (⟨#[]⟩ : ByteArray), .int .i64 0, .int .i64 0, .int .i64 0]) ?_ 4 _ rfl; (with_reducible repeat (first | refine blk_drewN ?_ _ | refine blk_drew ?_ | refine blk_alloc ?_ _)); refine blk_put (cs := #[.int .i64 t495, .string t496, .string t497, .int .i64 0, .string (⟨#[]⟩ : ByteArray), .string (⟨#[]⟩ : ByteArray), .int .i64 0, .int .i64 0, .int .i64 0]) ?_ 3 _ rfl; (with_reducible repeat (first | refine blk_drewN ?_ _ | refine blk_drew ?_ | refine blk_alloc ?_ _)); refine blk_put (cs := #[.int .i64 t495, .string t496, .string (⟨#[]⟩ : ByteArray), .int .i64 0, .string (⟨#[]⟩ : ByteArray), .string (⟨#[]⟩ : ByteArray), .int .i64 0, .int .i64 0, .int .i64 0]) ?_ 2 _ rfl; (with_reducible repeat (first | refine blk_drewN ?_ _ | refine blk_drew ?_ | refine blk_alloc ?_ _)); refine blk_put (cs := #[.int .i64 t495, .string (⟨#[]⟩ : ByteArray), .string (⟨#[]⟩ : ByteArray), .int .i64 0, .string (⟨#[]⟩ : ByteArray), .string (⟨#[]⟩ : ByteArray), .int .i64 0, .int .i64 0, .int .i64 0]) ?_ 1 _ rfl; (with_reducible repeat (first | refine blk_drewN ?_ _ | refine blk_drew ?_ | refine blk_alloc ?_ _)); refine blk_put (cs := za1_) ?_ 0 _ rfl; (with_reducible repeat (first | refine blk_drewN ?_ _ | refine blk_drew ?_ | refine blk_alloc ?_ _)); exact ac.out⟩
 have n3_ : Aside0 (Below w.heap.size w (((((((((w55.setCell ⟨ad, 0, none⟩ (.int .i64 t495)).setCell ⟨ad, 1, none⟩ (.string t496)).setCell ⟨ad, 2, none⟩ (.string t497)).setCell ⟨ad, 3, none⟩ (.int .i64 t498)).setCell ⟨ad, 4, none⟩ (.string t499)).setCell ⟨ad, 5, none⟩ (.string t500)).setCell ⟨ad, 6, none⟩ (.int .i64 t501)).setCell ⟨ad, 7, none⟩ (.int .i64 t502)).setCell ⟨ad, 8, none⟩ (.int .i64 t503))) := ⟨bw⟩
 (try clear aa)
 (try clear ab)
 (try clear ac)
 (try clear HB)
 generalize (((((((((w55.setCell ⟨ad, 0, none⟩ (.int .i64 t495)).setCell ⟨ad, 1, none⟩ (.string t496)).setCell ⟨ad, 2, none⟩ (.string t497)).setCell ⟨ad, 3, none⟩ (.int .i64 t498)).setCell ⟨ad, 4, none⟩ (.string t499)).setCell ⟨ad, 5, none⟩ (.string t500)).setCell ⟨ad, 6, none⟩ (.int .i64 t501)).setCell ⟨ad, 7, none⟩ (.int .i64 t502)).setCell ⟨ad, 8, none⟩ (.int .i64 t503)) = w59 at n0_ n1_ n2_ n3_ ⊢
 have aa := n0_
 have ab := n1_
 have ac := n2_
 have HB := n3_
 clear n0_ n1_ n2_ n3_
 replace aa := Aside0.mk (blk_drew aa.out)
 replace ab := Aside0.mk (blk_drew ab.out)
 replace ac := Aside0.mk (blk_drew ac.out)
 replace HB := Aside0.mk (below_drew1 HB.out)
 refine start_ (n := 44) (S := fun w' => w'.cell? ⟨ae, 0, none⟩ = some (.int .i64 a0_0) ∧ w'.cell? ⟨ae, 1, none⟩ = some (.string a0_1) ∧ w'.cell? ⟨ae, 2, none⟩ = some (.string a0_2) ∧ w'.cell? ⟨ae, 3, none⟩ = some (.int .i64 a0_3) ∧ w'.cell? ⟨ae, 4, none⟩ = some (.string a0_4) ∧ w'.cell? ⟨ae, 5, none⟩ = some (.string a0_5) ∧ w'.cell? ⟨ae, 6, none⟩ = some (.int .i64 a0_6) ∧ w'.cell? ⟨ae, 7, none⟩ = some (.int .i64 a0_7) ∧ w'.cell? ⟨ae, 8, none⟩ = some (.int .i64 a0_8) ∧ w'.cell? ⟨af, 0, none⟩ = some (.int .i64 t484) ∧ w'.cell? ⟨af, 1, none⟩ = some (.string t485) ∧ w'.cell? ⟨af, 2, none⟩ = some (.string t486) ∧ w'.cell? ⟨af, 3, none⟩ = some (.int .i64 t487) ∧ w'.cell? ⟨af, 4, none⟩ = some (.string t488) ∧ w'.cell? ⟨af, 5, none⟩ = some (.string t489) ∧ w'.cell? ⟨af, 6, none⟩ = some (.int .i64 t490) ∧ w'.cell? ⟨af, 7, none⟩ = some (.int .i64 t491) ∧ w'.cell? ⟨af, 8, none⟩ = some (.int .i64 t492) ∧ w'.cell? ⟨ad, 0, none⟩ = some (.int .i64 t495) ∧ w'.cell? ⟨ad, 1, none⟩ = some (.string t496) ∧ w'.cell? ⟨ad, 2, none⟩ = some (.string t497) ∧ w'.cell? ⟨ad, 3, none⟩ = some (.int .i64 t498) ∧ w'.cell? ⟨ad, 4, none⟩ = some (.string t499) ∧ w'.cell? ⟨ad, 5, none⟩ = some (.string t500) ∧ w'.cell? ⟨ad, 6, none⟩ = some (.int .i64 t501) ∧ w'.cell? ⟨ad, 7, none⟩ = some (.int .i64 t502) ∧ w'.cell? ⟨ad, 8, none⟩ = some (.int .i64 t503)) (ds := []) (bz 44 0) (by kernel_rfl) rfl rfl (by and_intros <;> first | exact (blk_cell aa.out _).trans rfl | exact (blk_cell ab.out _).trans rfl | exact (blk_cell ac.out _).trans rfl) (fun hHeld => ?_); refine with_tabW carillonlaw14_CommandBytes.tab6 carillonlaw14_CommandBytes.bits6 (fun HT_ HW_ => ?_)
 generalize w59.drew = w60 at aa ab ac HB hHeld ⊢
 refine pu_ 0 (some 35) (bz 44 1) HT_.out ?_
 refine pu_ 1 (some 36) (bz 44 3) HT_.out ?_
 refine take_ (i := 2) (N := some 37) (v := ?_) (a' := ?_) (bz 44 7) rfl rfl (take_ofW HT_.out HW_.out (by kernel_rfl)) (fun _ _ _ h => h) (Or.inl ⟨by rfl, ?_⟩) hHeld ?_ ?_
 rotate_left
 ·rintro w' ⟨s0, s1, s2, s3, s4, s5, s6, s7, s8, s9, s10, s11, s12, s13, s14, s15, s16, s17, s18, s19, s20, s21, s22, s23, s24, s25, s26⟩
  go_simp
  with_reducible rfl
 rotate_left
 ·simp only [Act.put, sl1, sl2, sl3, i64_w, i32_w]
  rfl
 refine take_ (i := 4) (N := some 39) (v := ?_) (a' := ?_) (bz 44 23) rfl rfl (take_ofW HT_.out HW_.out (by kernel_rfl)) (fun _ _ _ h => h) (Or.inl ⟨by rfl, ?_⟩) hHeld ?_ ?_
 rotate_left
 ·rintro w' ⟨s0, s1, s2, s3, s4, s5, s6, s7, s8, s9, s10, s11, s12, s13, s14, s15, s16, s17, s18, s19, s20, s21, s22, s23, s24, s25, s26⟩
  go_simp
  with_reducible rfl
 rotate_left
 ·simp only [Act.put, sl1, sl2, sl3, i64_w, i32_w]
  rfl
 refine one_ (i := 3) (N := some 38) (bz 44 31) rfl rfl (one_of HT_.out (by kernel_rfl)) (by decide) (fun K hK => ?_)
 refine goes_ Tryd.func16 (by kernel_rfl) rfl #[.agg #[.int .i64 a0_0, .string a0_1, .string a0_2, .int .i64 a0_3, .string a0_4, .string a0_5, .int .i64 a0_6, .int .i64 a0_7, .int .i64 a0_8]] (by rfl) rfl rfl am ?_
 with_reducible refine (command_Right.calls a0_0 a0_1 a0_2 a0_3 a0_4 a0_5 a0_6 a0_7 a0_8 t506 _ A9.out).mono ?_
 rintro e w61 ⟨rfl, hb⟩
 refine ⟨_, rfl, ?_⟩
 replace aa := Aside0.mk (nb aa.out hb)
 replace ab := Aside0.mk (nb ab.out hb)
 replace ac := Aside0.mk (nb ac.out hb)
 replace HB := Aside0.mk (below_step bw hb)
 (try clear hb)
 (try clear hb2)
 (try clear hk)
 (try clear hi)
 refine hK.out _ _ (by and_intros <;> first | exact (blk_cell aa.out _).trans rfl | exact (blk_cell ab.out _).trans rfl | exact (blk_cell ac.out _).trans rfl) (fun hHeld => ?_)
 clear hK K
 refine norm_ (a' := ?_) ?_ ?_
 rotate_left
 ·show Act.put _ (some 38) _ = _
  simp only [Act.put, sl1, sl2, sl3, i64_w, i32_w]
  rfl
 refine one_ (i := 5) (N := some 40) (bz 44 63) rfl rfl (one_of HT_.out (by kernel_rfl)) (by decide) (fun K hK => ?_)
 refine goes_ Tryd.func17 (by kernel_rfl) rfl #[.agg #[.int .i64 a0_0, .string a0_1, .string a0_2, .int .i64 a0_3, .string a0_4, .string a0_5, .int .i64 a0_6, .int .i64 a0_7, .int .i64 a0_8]] (by rfl) rfl rfl am ?_
 with_reducible refine (carillonref14_Right.calls k a0_0 a0_1 a0_2 a0_3 a0_4 a0_5 a0_6 a0_7 a0_8 t507 _ A10.out).mono ?_
 rintro e w62 ⟨rfl, hb⟩
 refine ⟨_, rfl, ?_⟩
 replace aa := Aside0.mk (nb aa.out hb)
 replace ab := Aside0.mk (nb ab.out hb)
 replace ac := Aside0.mk (nb ac.out hb)
 replace HB := Aside0.mk (below_step bw hb)
 (try clear hb)
 (try clear hb2)
 (try clear hk)
 (try clear hi)
 refine hK.out _ _ (by and_intros <;> first | exact (blk_cell aa.out _).trans rfl | exact (blk_cell ab.out _).trans rfl | exact (blk_cell ac.out _).trans rfl) (fun hHeld => ?_)
 clear hK K
 refine norm_ (a' := ?_) ?_ ?_
 rotate_left
 ·show Act.put _ (some 40) _ = _
  simp only [Act.put, sl1, sl2, sl3, i64_w, i32_w]
  rfl
 refine pu_ 6 (some 41) (bz 44 127) HT_.out ?_
 refine pu_ 7 (some 42) (bz 44 255) HT_.out ?_
 refine pu_ 8 (some 43) (bz 44 511) HT_.out ?_
 refine pu_ 9 (some 44) (bz 44 1023) HT_.out ?_
 refine pu_ 10 (some 45) (bz 44 2047) HT_.out ?_
 refine pu_ 11 (some 46) (bz 44 4095) HT_.out ?_
 refine pu_ 12 (some 47) (bz 44 8191) HT_.out ?_
 refine pu_ 13 (some 48) (bz 44 16383) HT_.out ?_
 refine pu_ 14 (some 49) (bz 44 32767) HT_.out ?_
 refine pu_ 15 (some 50) (bz 44 65535) HT_.out ?_
 refine pu_ 16 (some 51) (bz 44 131071) HT_.out ?_
 refine pu_ 17 (some 52) (bz 44 262143) HT_.out ?_
 refine pu_ 18 (some 53) (bz 44 524287) HT_.out ?_
 refine pu_ 19 (some 54) (bz 44 1048575) HT_.out ?_
 refine pu_ 20 (some 55) (bz 44 2097151) HT_.out ?_
 refine pu_ 21 (some 56) (bz 44 4194303) HT_.out ?_
 refine pu_ 22 (some 57) (bz 44 8388607) HT_.out ?_
 refine pu_ 23 (some 58) (bz 44 16777215) HT_.out ?_
 refine pu_ 24 (some 59) (bz 44 33554431) HT_.out ?_
 refine pu_ 25 (some 60) (bz 44 67108863) HT_.out ?_
 refine pu_ 26 (some 61) (bz 44 134217727) HT_.out ?_
 refine take_ (i := 27) (N := some 62) (v := ?_) (a' := ?_) (bz 44 268435455) rfl rfl (take_ofW HT_.out HW_.out (by kernel_rfl)) (fun _ _ _ h => h) (Or.inl ⟨by rfl, ?_⟩) hHeld ?_ ?_
 rotate_left
 ·rintro w' ⟨s0, s1, s2, s3, s4, s5, s6, s7, s8, s9, s10, s11, s12, s13, s14, s15, s16, s17, s18, s19, s20, s21, s22, s23, s24, s25, s26⟩
  go_simp
  with_reducible rfl
 rotate_left
 ·simp only [Act.put, sl1, sl2, sl3, i64_w, i32_w]
  rfl
 refine take_ (i := 28) (N := some 63) (v := ?_) (a' := ?_) (bz 44 536870911) rfl rfl (take_ofW HT_.out HW_.out (by kernel_rfl)) (fun _ _ _ h => h) (Or.inl ⟨by rfl, ?_⟩) hHeld ?_ ?_
 rotate_left
 ·rintro w' ⟨s0, s1, s2, s3, s4, s5, s6, s7, s8, s9, s10, s11, s12, s13, s14, s15, s16, s17, s18, s19, s20, s21, s22, s23, s24, s25, s26⟩
  go_simp
  with_reducible rfl
 rotate_left
 ·simp only [Act.put, sl1, sl2, sl3, i64_w, i32_w]
  rfl
 refine pu_ 29 (some 64) (bz 44 1073741823) HT_.out ?_
 refine pu_ 30 (some 65) (bz 44 2147483647) HT_.out ?_
 refine pu_ 31 (some 66) (bz 44 4294967295) HT_.out ?_
 refine pu_ 32 (some 67) (bz 44 8589934591) HT_.out ?_
 refine pu_ 33 (some 68) (bz 44 17179869183) HT_.out ?_
 refine pu_ 34 (some 69) (bz 44 34359738367) HT_.out ?_
 refine pu_ 35 (some 70) (bz 44 68719476735) HT_.out ?_
 refine pu_ 36 (some 71) (bz 44 137438953471) HT_.out ?_
 refine pu_ 37 (some 72) (bz 44 274877906943) HT_.out ?_
 refine pu_ 39 (some 74) (bz 44 824633720831) HT_.out ?_
 refine one_ (i := 38) (N := some 73) (bz 44 1099511627775) rfl rfl (one_of HT_.out (by kernel_rfl)) (by decide) (fun K hK => ?_)
 refine goes_ Tryd.func18 (by kernel_rfl) rfl #[.string a1] (by rfl) rfl rfl am ?_
 with_reducible refine (command_Word.calls a1 t510 _ A42.out).mono ?_
 rintro e w63 ⟨rfl, hb⟩
 refine ⟨_, rfl, ?_⟩
 replace aa := Aside0.mk (nb aa.out hb)
 replace ab := Aside0.mk (nb ab.out hb)
 replace ac := Aside0.mk (nb ac.out hb)
 replace HB := Aside0.mk (below_step bw hb)
 (try clear hb)
 (try clear hb2)
 (try clear hk)
 (try clear hi)
 refine hK.out _ _ (by and_intros <;> first | exact (blk_cell aa.out _).trans rfl | exact (blk_cell ab.out _).trans rfl | exact (blk_cell ac.out _).trans rfl) (fun hHeld => ?_)
 clear hK K
 refine norm_ (a' := ?_) ?_ ?_
 rotate_left
 ·show Act.put _ (some 73) _ = _
  simp only [Act.put, sl1, sl2, sl3, i64_w, i32_w]
  rfl
 refine one_ (i := 40) (N := some 75) (bz 44 2199023255551) rfl rfl (one_of HT_.out (by kernel_rfl)) (by decide) (fun K hK => ?_)
 refine goes_ Tryd.func19 (by kernel_rfl) rfl #[.string a1] (by rfl) rfl rfl am ?_
 with_reducible refine (carillonref14_Word.calls k a1 t511 _ A43.out).mono ?_
 rintro e w' ⟨rfl, ⟨nd, rfl⟩⟩
 refine ⟨_, rfl, ?_⟩
 refine hK.out _ _ (by and_intros <;> first | exact (blk_cell aa.out _).trans rfl | exact (blk_cell ab.out _).trans rfl | exact (blk_cell ac.out _).trans rfl) (fun hHeld => ?_)
 clear hK K
 refine norm_ (a' := ?_) ?_ ?_
 rotate_left
 ·show Act.put _ (some 75) _ = _
  simp only [Act.put, sl1, sl2, sl3, i64_w, i32_w]
  rfl
 refine pu_ 41 (some 76) (bz 44 4398046511103) HT_.out ?_
 refine pu_ 42 (some 77) (bz 44 8796093022207) HT_.out ?_
 refine pu_ 43 (some 4) (bz 44 17592186044415) HT_.out ?_
 refine done_ (done_of HT_.out (by kernel_rfl)) ?_
 try go_wp2
 go_ret
 exact ⟨er, bw⟩

end Go.Proofs.YtpgiagdpepkooaaDoor.P
