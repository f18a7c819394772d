-- Printed by this session's program wip/xp.py (a turned copy of the kit's printer): functions, their contracts.
import Derived.Test.YthkncdnpfoccjaaDoorPx0
import Derived.Test.YthkncdnpfoccjaaDoorPx3
import Derived.Test.YthkncdnpfoccjaaDoorPx12
import Derived.Test.YthkncdnpfoccjaaDoorPx13
import Derived.Test.YthkncdnpfoccjaaDoorPx15
import Derived.Test.YthkncdnpfoccjaaDoorPx16
namespace Go.Proofs.YthkncdnpfoccjaaDoor.P
open Go.RowKit Go.Proofs.YthkncdnpfoccjaaDoorW.PrintWords Go.Proofs.YthkncdnpfoccjaaDoorW.PrintLast Go.Proofs.YthkncdnpfoccjaaDoorW.PrintMore
attribute [local go_sem] max2_int min2_int max_two min_two max_three min_three max_four min_four   -- for this text's walks alone
set_option linter.unusedVariables false
set_option linter.unusedSimpArgs false

/-! ### carillonlaw01_CodecStar: function 9 -/
def carillonlaw01_CodecStar.f (k : Nat) (a0 : ByteArray) (a1 : ByteArray) (a2 : Int) (a3 : ByteArray) : Option (Bool) := (carillonlaw01_examples.f).bind fun t308 => (if a2 < 0 then ((codec_Decode.f k a1 (⟨#[]⟩ : ByteArray)).bind fun bt309 => (if a0.size + a1.size ≤ 9223372036854775807 then ((strings_Contains.f (a0 ++ a1) (⟨#[42]⟩ : ByteArray)).bind fun t313 => (if t313 = true then (some t308) else (if a1.toList = ([] : List UInt8) then (some t308) else (if bt309.2 = 1 then (some t308) else ((strings_Repeat.f a1 (Int.tmod (wrap64 (-(wrap64 (a2 + 1)))) 101)).bind fun t314 => (if a0.size + t314.size ≤ 9223372036854775807 then ((codec_Decode.f k (a0 ++ t314) a3).bind fun bt315 => (if bt315.2 = 0 then (if a0.size + 1 ≤ 9223372036854775807 then (if (a0 ++ (⟨#[42]⟩ : ByteArray)).size + a1.size ≤ 9223372036854775807 then ((codec_Decode.f k ((a0 ++ (⟨#[42]⟩ : ByteArray)) ++ a1) a3).bind fun bt319 => ((carillonlaw01_same.f k bt319.1 bt315.1).bind fun t323 => (if t308 = true then (if bt319.2 = 0 then (some t323) else (some false)) else (some false)))) else (none)) else (none)) else (some t308))) else (none))))))) else (none))) else ((codec_Decode.f k a1 (⟨#[]⟩ : ByteArray)).bind fun bt324 => (if a0.size + a1.size ≤ 9223372036854775807 then ((strings_Contains.f (a0 ++ a1) (⟨#[42]⟩ : ByteArray)).bind fun t328 => (if t328 = true then (some t308) else (if a1.toList = ([] : List UInt8) then (some t308) else (if bt324.2 = 1 then (some t308) else ((strings_Repeat.f a1 (Int.tmod a2 101)).bind fun t329 => (if a0.size + t329.size ≤ 9223372036854775807 then ((codec_Decode.f k (a0 ++ t329) a3).bind fun bt330 => (if bt330.2 = 0 then (if a0.size + 1 ≤ 9223372036854775807 then (if (a0 ++ (⟨#[42]⟩ : ByteArray)).size + a1.size ≤ 9223372036854775807 then ((codec_Decode.f k ((a0 ++ (⟨#[42]⟩ : ByteArray)) ++ a1) a3).bind fun bt334 => ((carillonlaw01_same.f k bt334.1 bt330.1).bind fun t338 => (if t308 = true then (if bt334.2 = 0 then (some t338) else (some false)) else (some false)))) else (none)) else (none)) else (some t308))) else (none))))))) else (none))))
theorem carillonlaw01_CodecStar.mono : ∀ a0 a1 a2 a3 k, LeO (carillonlaw01_CodecStar.f k a0 a1 a2 a3) (carillonlaw01_CodecStar.f (k + 1) a0 a1 a2 a3) := by
 intro a0 a1 a2 a3 k
 unfold carillonlaw01_CodecStar.f
 repeat' first
   | (with_reducible exact carillonlaw01_same.mono _ _ _)
   | (with_reducible exact codec_Decode.mono _ _ _)
   | (with_reducible exact LeO.refl _)
   | (with_reducible exact LeO.none _)
   | (with_reducible refine LeO.ite ?_ ?_)
   | (with_reducible refine LeO.bind ?_ (fun _ => ?_))
   | exact carillonlaw01_same.mono _ _ _
   | exact codec_Decode.mono _ _ _
   | exact LeO.none _
   | refine LeO.ite ?_ ?_
   | refine LeO.bind ?_ (fun _ => ?_)
set_option maxHeartbeats 8000000 in
set_option maxRecDepth 100000 in
theorem carillonlaw01_CodecStar.calls (k : Nat) (a0 : ByteArray) (a1 : ByteArray) (a2 : Int) (a3 : ByteArray) (r : Bool) (w : World) (hr_ : Aside0 (r = true)) (HT_ : TabOk w) (h : carillonlaw01_CodecStar.f k a0 a1 a2 a3 = some r) :
  Calls Tryd.prog 9 #[.string a0, .string a1, .int .i64 a2, .string a3] w fun e w' => e = .returned (.bool r) ∧ Below w.heap.size w w' := by
 have HT := Aside0.mk HT_
 clear HT_
 have HB := Aside0.mk (Below.refl w.heap.size w)
 have H : ((carillonlaw01_examples.f).bind fun t308 => (if a2 < 0 then ((codec_Decode.f k a1 (⟨#[]⟩ : ByteArray)).bind fun bt309 => (if a0.size + a1.size ≤ 9223372036854775807 then ((strings_Contains.f (a0 ++ a1) (⟨#[42]⟩ : ByteArray)).bind fun t313 => (if t313 = true then (some t308) else (if a1.toList = ([] : List UInt8) then (some t308) else (if bt309.2 = 1 then (some t308) else ((strings_Repeat.f a1 (Int.tmod (wrap64 (-(wrap64 (a2 + 1)))) 101)).bind fun t314 => (if a0.size + t314.size ≤ 9223372036854775807 then ((codec_Decode.f k (a0 ++ t314) a3).bind fun bt315 => (if bt315.2 = 0 then (if a0.size + 1 ≤ 9223372036854775807 then (if (a0 ++ (⟨#[42]⟩ : ByteArray)).size + a1.size ≤ 9223372036854775807 then ((codec_Decode.f k ((a0 ++ (⟨#[42]⟩ : ByteArray)) ++ a1) a3).bind fun bt319 => ((carillonlaw01_same.f k bt319.1 bt315.1).bind fun t323 => (if t308 = true then (if bt319.2 = 0 then (some t323) else (some false)) else (some false)))) else (none)) else (none)) else (some t308))) else (none))))))) else (none))) else ((codec_Decode.f k a1 (⟨#[]⟩ : ByteArray)).bind fun bt324 => (if a0.size + a1.size ≤ 9223372036854775807 then ((strings_Contains.f (a0 ++ a1) (⟨#[42]⟩ : ByteArray)).bind fun t328 => (if t328 = true then (some t308) else (if a1.toList = ([] : List UInt8) then (some t308) else (if bt324.2 = 1 then (some t308) else ((strings_Repeat.f a1 (Int.tmod a2 101)).bind fun t329 => (if a0.size + t329.size ≤ 9223372036854775807 then ((codec_Decode.f k (a0 ++ t329) a3).bind fun bt330 => (if bt330.2 = 0 then (if a0.size + 1 ≤ 9223372036854775807 then (if (a0 ++ (⟨#[42]⟩ : ByteArray)).size + a1.size ≤ 9223372036854775807 then ((codec_Decode.f k ((a0 ++ (⟨#[42]⟩ : ByteArray)) ++ a1) a3).bind fun bt334 => ((carillonlaw01_same.f k bt334.1 bt330.1).bind fun t338 => (if t308 = true then (if bt334.2 = 0 then (some t338) else (some false)) else (some false)))) else (none)) else (none)) else (some t308))) else (none))))))) else (none))))) = some r := h
 clear h
 replace H := Option.bind_eq_some_iff.mp H
 obtain ⟨t308, A50, H⟩ := H
 replace H : (if a2 < 0 then ((codec_Decode.f k a1 (⟨#[]⟩ : ByteArray)).bind fun bt309 => (if a0.size + a1.size ≤ 9223372036854775807 then ((strings_Contains.f (a0 ++ a1) (⟨#[42]⟩ : ByteArray)).bind fun t313 => (if t313 = true then (some t308) else (if a1.toList = ([] : List UInt8) then (some t308) else (if bt309.2 = 1 then (some t308) else ((strings_Repeat.f a1 (Int.tmod (wrap64 (-(wrap64 (a2 + 1)))) 101)).bind fun t314 => (if a0.size + t314.size ≤ 9223372036854775807 then ((codec_Decode.f k (a0 ++ t314) a3).bind fun bt315 => (if bt315.2 = 0 then (if a0.size + 1 ≤ 9223372036854775807 then (if (a0 ++ (⟨#[42]⟩ : ByteArray)).size + a1.size ≤ 9223372036854775807 then ((codec_Decode.f k ((a0 ++ (⟨#[42]⟩ : ByteArray)) ++ a1) a3).bind fun bt319 => ((carillonlaw01_same.f k bt319.1 bt315.1).bind fun t323 => (if t308 = true then (if bt319.2 = 0 then (some t323) else (some false)) else (some false)))) else (none)) else (none)) else (some t308))) else (none))))))) else (none))) else ((codec_Decode.f k a1 (⟨#[]⟩ : ByteArray)).bind fun bt324 => (if a0.size + a1.size ≤ 9223372036854775807 then ((strings_Contains.f (a0 ++ a1) (⟨#[42]⟩ : ByteArray)).bind fun t328 => (if t328 = true then (some t308) else (if a1.toList = ([] : List UInt8) then (some t308) else (if bt324.2 = 1 then (some t308) else ((strings_Repeat.f a1 (Int.tmod a2 101)).bind fun t329 => (if a0.size + t329.size ≤ 9223372036854775807 then ((codec_Decode.f k (a0 ++ t329) a3).bind fun bt330 => (if bt330.2 = 0 then (if a0.size + 1 ≤ 9223372036854775807 then (if (a0 ++ (⟨#[42]⟩ : ByteArray)).size + a1.size ≤ 9223372036854775807 then ((codec_Decode.f k ((a0 ++ (⟨#[42]⟩ : ByteArray)) ++ a1) a3).bind fun bt334 => ((carillonlaw01_same.f k bt334.1 bt330.1).bind fun t338 => (if t308 = true then (if bt334.2 = 0 then (some t338) else (some false)) else (some false)))) else (none)) else (none)) else (some t308))) else (none))))))) else (none)))) = some r := H
 have A5 := Aside0.mk A50
 clear A50
 by_cases c6 : a2 < 0; rotate_left
 ·rw [if_neg c6] at H
  have c6b0 : decide (a2 < 0) = false := decide_eq_false c6
  clear c6
  replace H := Option.bind_eq_some_iff.mp H
  obtain ⟨⟨t324, t325⟩, A400, H⟩ := H
  replace H : (if a0.size + a1.size ≤ 9223372036854775807 then ((strings_Contains.f (a0 ++ a1) (⟨#[42]⟩ : ByteArray)).bind fun t328 => (if t328 = true then (some t308) else (if a1.toList = ([] : List UInt8) then (some t308) else (if t325 = 1 then (some t308) else ((strings_Repeat.f a1 (Int.tmod a2 101)).bind fun t329 => (if a0.size + t329.size ≤ 9223372036854775807 then ((codec_Decode.f k (a0 ++ t329) a3).bind fun bt330 => (if bt330.2 = 0 then (if a0.size + 1 ≤ 9223372036854775807 then (if (a0 ++ (⟨#[42]⟩ : ByteArray)).size + a1.size ≤ 9223372036854775807 then ((codec_Decode.f k ((a0 ++ (⟨#[42]⟩ : ByteArray)) ++ a1) a3).bind fun bt334 => ((carillonlaw01_same.f k bt334.1 bt330.1).bind fun t338 => (if t308 = true then (if bt334.2 = 0 then (some t338) else (some false)) else (some false)))) else (none)) else (none)) else (some t308))) else (none))))))) else (none)) = some r := H
  have A40 := Aside0.mk A400
  clear A400
  by_cases c41 : a0.size + a1.size ≤ 9223372036854775807; rotate_left
  ·rw [if_neg c41] at H
   exact absurd H (by simp)
  rw [if_pos c41] at H
  have c41b0 := eq_true c41
  have c41b1 : decide (a0.size + a1.size ≤ 9223372036854775807) = true := decide_eq_true c41
  try have c41b2 : (9223372036854775807 < a0.size + a1.size) = False := eq_false (Nat.not_lt.2 c41)
  replace H := Option.bind_eq_some_iff.mp H
  obtain ⟨t328, A420, H⟩ := H
  replace H : (if t328 = true then (some t308) else (if a1.toList = ([] : List UInt8) then (some t308) else (if t325 = 1 then (some t308) else ((strings_Repeat.f a1 (Int.tmod a2 101)).bind fun t329 => (if a0.size + t329.size ≤ 9223372036854775807 then ((codec_Decode.f k (a0 ++ t329) a3).bind fun bt330 => (if bt330.2 = 0 then (if a0.size + 1 ≤ 9223372036854775807 then (if (a0 ++ (⟨#[42]⟩ : ByteArray)).size + a1.size ≤ 9223372036854775807 then ((codec_Decode.f k ((a0 ++ (⟨#[42]⟩ : ByteArray)) ++ a1) a3).bind fun bt334 => ((carillonlaw01_same.f k bt334.1 bt330.1).bind fun t338 => (if t308 = true then (if bt334.2 = 0 then (some t338) else (some false)) else (some false)))) else (none)) else (none)) else (some t308))) else (none)))))) = some r := H
  have A42 := Aside0.mk A420
  clear A420
  by_cases c43 : t328 = true
  ·subst c43
   have H1 : (some t308) = some r := by rw [if_pos rfl] at H; exact H
   clear H
   have H := H1
   clear H1
   obtain rfl := Option.some.inj H
   go_enter Tryd.func9, Tryd.ntmps9
   go_wp2_with (first | ((with_reducible refine gate_callee (f := 10) rfl ?_); refine goesL_ (some 17) rfl rfl Tryd.func10 (by kernel_rfl) rfl #[] rfl am ?_; (with_reducible refine (carillonlaw01_examples.calls  t308 _ tbk A5.out).mono ?_); rintro e w44 ⟨rfl, hb⟩; refine ⟨_, rfl, ?_⟩; have n0_ := Aside0.mk (below_step bw hb); clear HB; have HB := n0_; clear n0_; (try clear hb)) | ((with_reducible refine gate_callee (f := 12) rfl ?_); refine goesL_ (some 27) rfl rfl Tryd.func12 (by kernel_rfl) rfl #[.string a1, .string (⟨#[]⟩ : ByteArray)] rfl am ?_; (with_reducible refine (codec_Decode.calls k a1 (⟨#[]⟩ : ByteArray) t324 t325 _ tbk A40.out).mono ?_); rintro e w45 ⟨v326, rfl, ho0, hb⟩; refine ⟨_, rfl, ?_⟩; have n0_ := Aside0.mk (Kd.R_lower ho0 (below_size bw)); have n1_ := Aside0.mk (below_step bw hb); clear HB; have ab := n0_; have HB := n1_; clear n0_ n1_; (try clear hb); (try clear ho0)) | ((with_reducible refine gate_callee (f := 18) rfl ?_); refine goesL_ (some 33) rfl rfl Tryd.func18 (by kernel_rfl) rfl #[.string (a0 ++ a1), .string (⟨#[42]⟩ : ByteArray)] rfl am ?_; (with_reducible refine (strings_Contains.calls (a0 ++ a1) (⟨#[42]⟩ : ByteArray) true _ A42.out).mono ?_); rintro e w' ⟨rfl, ⟨nd, rfl⟩⟩; refine ⟨_, rfl, ?_⟩))
   go_ret
   exact ⟨er, bw⟩
  replace c43 := Bool.eq_false_iff.mpr c43
  subst c43
  have H1 : (if a1.toList = ([] : List UInt8) then (some t308) else (if t325 = 1 then (some t308) else ((strings_Repeat.f a1 (Int.tmod a2 101)).bind fun t329 => (if a0.size + t329.size ≤ 9223372036854775807 then ((codec_Decode.f k (a0 ++ t329) a3).bind fun bt330 => (if bt330.2 = 0 then (if a0.size + 1 ≤ 9223372036854775807 then (if (a0 ++ (⟨#[42]⟩ : ByteArray)).size + a1.size ≤ 9223372036854775807 then ((codec_Decode.f k ((a0 ++ (⟨#[42]⟩ : ByteArray)) ++ a1) a3).bind fun bt334 => ((carillonlaw01_same.f k bt334.1 bt330.1).bind fun t338 => (if t308 = true then (if bt334.2 = 0 then (some t338) else (some false)) else (some false)))) else (none)) else (none)) else (some t308))) else (none))))) = some r := by rw [if_neg (show ¬ (false = true) by decide)] at H; exact H
  clear H
  have H := H1
  clear H1
  by_cases c46 : a1.toList = ([] : List UInt8)
  ·rw [if_pos c46] at H
   have c46b0 : (a1.toList == ([] : List UInt8)) = true := beq_iff_eq.mpr c46
   have c46b1 : (a1.toList != ([] : List UInt8)) = false := bne_eq_false_iff_eq.mpr c46
   clear c46
   obtain rfl := Option.some.inj H
   go_enter Tryd.func9, Tryd.ntmps9
   go_wp2_with (first | ((with_reducible refine gate_callee (f := 10) rfl ?_); refine goesL_ (some 17) rfl rfl Tryd.func10 (by kernel_rfl) rfl #[] rfl am ?_; (with_reducible refine (carillonlaw01_examples.calls  t308 _ tbk A5.out).mono ?_); rintro e w47 ⟨rfl, hb⟩; refine ⟨_, rfl, ?_⟩; have n0_ := Aside0.mk (below_step bw hb); clear HB; have HB := n0_; clear n0_; (try clear hb)) | ((with_reducible refine gate_callee (f := 12) rfl ?_); refine goesL_ (some 27) rfl rfl Tryd.func12 (by kernel_rfl) rfl #[.string a1, .string (⟨#[]⟩ : ByteArray)] rfl am ?_; (with_reducible refine (codec_Decode.calls k a1 (⟨#[]⟩ : ByteArray) t324 t325 _ tbk A40.out).mono ?_); rintro e w48 ⟨v326, rfl, ho0, hb⟩; refine ⟨_, rfl, ?_⟩; have n0_ := Aside0.mk (Kd.R_lower ho0 (below_size bw)); have n1_ := Aside0.mk (below_step bw hb); clear HB; have ab := n0_; have HB := n1_; clear n0_ n1_; (try clear hb); (try clear ho0)) | ((with_reducible refine gate_callee (f := 18) rfl ?_); refine goesL_ (some 33) rfl rfl Tryd.func18 (by kernel_rfl) rfl #[.string (a0 ++ a1), .string (⟨#[42]⟩ : ByteArray)] rfl am ?_; (with_reducible refine (strings_Contains.calls (a0 ++ a1) (⟨#[42]⟩ : ByteArray) false _ A42.out).mono ?_); rintro e w' ⟨rfl, ⟨nd, rfl⟩⟩; refine ⟨_, rfl, ?_⟩))
   go_ret
   exact ⟨er, bw⟩
  rw [if_neg c46] at H
  have c46b0 : (a1.toList == ([] : List UInt8)) = false := beq_eq_false_iff_ne.mpr c46
  have c46b1 : (a1.toList != ([] : List UInt8)) = true := bne_iff_ne.mpr c46
  by_cases c49 : t325 = 1
  ·rw [if_pos c49] at H
   have c49b0 : (t325 == 1) = true := beq_iff_eq.mpr c49
   have c49b1 : (t325 != 1) = false := bne_eq_false_iff_eq.mpr c49
   clear c49
   obtain rfl := Option.some.inj H
   go_enter Tryd.func9, Tryd.ntmps9
   go_wp2_with (first | ((with_reducible refine gate_callee (f := 10) rfl ?_); refine goesL_ (some 17) rfl rfl Tryd.func10 (by kernel_rfl) rfl #[] rfl am ?_; (with_reducible refine (carillonlaw01_examples.calls  t308 _ tbk A5.out).mono ?_); rintro e w50 ⟨rfl, hb⟩; refine ⟨_, rfl, ?_⟩; have n0_ := Aside0.mk (below_step bw hb); clear HB; have HB := n0_; clear n0_; (try clear hb)) | ((with_reducible refine gate_callee (f := 12) rfl ?_); refine goesL_ (some 27) rfl rfl Tryd.func12 (by kernel_rfl) rfl #[.string a1, .string (⟨#[]⟩ : ByteArray)] rfl am ?_; (with_reducible refine (codec_Decode.calls k a1 (⟨#[]⟩ : ByteArray) t324 t325 _ tbk A40.out).mono ?_); rintro e w51 ⟨v326, rfl, ho0, hb⟩; refine ⟨_, rfl, ?_⟩; have n0_ := Aside0.mk (Kd.R_lower ho0 (below_size bw)); have n1_ := Aside0.mk (below_step bw hb); clear HB; have ab := n0_; have HB := n1_; clear n0_ n1_; (try clear hb); (try clear ho0)) | ((with_reducible refine gate_callee (f := 18) rfl ?_); refine goesL_ (some 33) rfl rfl Tryd.func18 (by kernel_rfl) rfl #[.string (a0 ++ a1), .string (⟨#[42]⟩ : ByteArray)] rfl am ?_; (with_reducible refine (strings_Contains.calls (a0 ++ a1) (⟨#[42]⟩ : ByteArray) false _ A42.out).mono ?_); rintro e w' ⟨rfl, ⟨nd, rfl⟩⟩; refine ⟨_, rfl, ?_⟩))
   go_ret
   exact ⟨er, bw⟩
  rw [if_neg c49] at H
  have c49b0 : (t325 == 1) = false := beq_eq_false_iff_ne.mpr c49
  have c49b1 : (t325 != 1) = true := bne_iff_ne.mpr c49
  replace H := Option.bind_eq_some_iff.mp H
  obtain ⟨t329, A520, H⟩ := H
  replace H : (if a0.size + t329.size ≤ 9223372036854775807 then ((codec_Decode.f k (a0 ++ t329) a3).bind fun bt330 => (if bt330.2 = 0 then (if a0.size + 1 ≤ 9223372036854775807 then (if (a0 ++ (⟨#[42]⟩ : ByteArray)).size + a1.size ≤ 9223372036854775807 then ((codec_Decode.f k ((a0 ++ (⟨#[42]⟩ : ByteArray)) ++ a1) a3).bind fun bt334 => ((carillonlaw01_same.f k bt334.1 bt330.1).bind fun t338 => (if t308 = true then (if bt334.2 = 0 then (some t338) else (some false)) else (some false)))) else (none)) else (none)) else (some t308))) else (none)) = some r := H
  have A52 := Aside0.mk A520
  clear A520
  by_cases c53 : a0.size + t329.size ≤ 9223372036854775807; rotate_left
  ·rw [if_neg c53] at H
   exact absurd H (by simp)
  rw [if_pos c53] at H
  have c53b0 := eq_true c53
  have c53b1 : decide (a0.size + t329.size ≤ 9223372036854775807) = true := decide_eq_true c53
  try have c53b2 : (9223372036854775807 < a0.size + t329.size) = False := eq_false (Nat.not_lt.2 c53)
  replace H := Option.bind_eq_some_iff.mp H
  obtain ⟨⟨t330, t331⟩, A540, H⟩ := H
  replace H : (if t331 = 0 then (if a0.size + 1 ≤ 9223372036854775807 then (if (a0 ++ (⟨#[42]⟩ : ByteArray)).size + a1.size ≤ 9223372036854775807 then ((codec_Decode.f k ((a0 ++ (⟨#[42]⟩ : ByteArray)) ++ a1) a3).bind fun bt334 => ((carillonlaw01_same.f k bt334.1 t330).bind fun t338 => (if t308 = true then (if bt334.2 = 0 then (some t338) else (some false)) else (some false)))) else (none)) else (none)) else (some t308)) = some r := H
  have A54 := Aside0.mk A540
  clear A540
  by_cases c55 : t331 = 0; rotate_left
  ·rw [if_neg c55] at H
   have c55b0 : (t331 == 0) = false := beq_eq_false_iff_ne.mpr c55
   have c55b1 : (t331 != 0) = true := bne_iff_ne.mpr c55
   obtain rfl := Option.some.inj H
   go_enter Tryd.func9, Tryd.ntmps9
   go_wp2_with (first | ((with_reducible refine gate_callee (f := 10) rfl ?_); refine goesL_ (some 17) rfl rfl Tryd.func10 (by kernel_rfl) rfl #[] rfl am ?_; (with_reducible refine (carillonlaw01_examples.calls  t308 _ tbk A5.out).mono ?_); rintro e w69 ⟨rfl, hb⟩; refine ⟨_, rfl, ?_⟩; have n0_ := Aside0.mk (below_step bw hb); clear HB; have HB := n0_; clear n0_; (try clear hb)) | ((with_reducible refine gate_callee (f := 12) rfl ?_); refine goesL_ (some 27) rfl rfl Tryd.func12 (by kernel_rfl) rfl #[.string a1, .string (⟨#[]⟩ : ByteArray)] rfl am ?_; (with_reducible refine (codec_Decode.calls k a1 (⟨#[]⟩ : ByteArray) t324 t325 _ tbk A40.out).mono ?_); rintro e w70 ⟨v326, rfl, ho0, hb⟩; refine ⟨_, rfl, ?_⟩; have n0_ := Aside0.mk (Kd.R_lower ho0 (below_size bw)); have n1_ := Aside0.mk (below_step bw hb); clear HB; have ab := n0_; have HB := n1_; clear n0_ n1_; (try clear hb); (try clear ho0)) | ((with_reducible refine gate_callee (f := 18) rfl ?_); refine goesL_ (some 33) rfl rfl Tryd.func18 (by kernel_rfl) rfl #[.string (a0 ++ a1), .string (⟨#[42]⟩ : ByteArray)] rfl am ?_; (with_reducible refine (strings_Contains.calls (a0 ++ a1) (⟨#[42]⟩ : ByteArray) false _ A42.out).mono ?_); rintro e w' ⟨rfl, ⟨nd, rfl⟩⟩; refine ⟨_, rfl, ?_⟩) | ((with_reducible refine gate_callee (f := 19) rfl ?_); refine goesL_ (some 47) rfl rfl Tryd.func19 (by kernel_rfl) rfl #[.string a1, .int .i64 (Int.tmod a2 101)] rfl am ?_; (with_reducible refine (strings_Repeat.calls a1 (Int.tmod a2 101) t329 _ A52.out).mono ?_); rintro e w71 ⟨rfl, hb⟩; refine ⟨_, rfl, ?_⟩; have n0_ := Aside0.mk (Kd.R_below (by (with_reducible repeat (first | apply Kd.R_alloc | apply Kd.R_drewN | apply Kd.R_drew)); exact ab.out) hb); have n1_ := Aside0.mk (below_step bw hb); clear ab; clear HB; have ab := n0_; have HB := n1_; clear n0_ n1_; (try clear hb)) | ((with_reducible refine gate_callee (f := 12) rfl ?_); refine goesL_ (some 50) rfl rfl Tryd.func12 (by kernel_rfl) rfl #[.string (a0 ++ t329), .string a3] rfl am ?_; (with_reducible refine (codec_Decode.calls k (a0 ++ t329) a3 t330 t331 _ tbk A54.out).mono ?_); rintro e w72 ⟨v332, rfl, ho0, hb⟩; refine ⟨_, rfl, ?_⟩; have n0_ := Aside0.mk (Kd.R_elder' (by (with_reducible repeat (first | apply Kd.R_alloc | apply Kd.R_drewN | apply Kd.R_drew)); exact ab.out) (Kd.R_base ho0) hb); have n1_ := Aside0.mk (Kd.R_lower (Kd.R_new' ho0 (Kd.R_lt (by (with_reducible repeat (first | apply Kd.R_alloc | apply Kd.R_drewN | apply Kd.R_drew)); exact ab.out))) (below_size bw)); have n2_ := Aside0.mk (below_step bw hb); clear ab; clear HB; have ab := n0_; have ad := n1_; have HB := n2_; clear n0_ n1_ n2_; (try clear hb); (try clear ho0)))
   go_ret
   exact ⟨er, bw⟩
  rw [if_pos c55] at H
  have c55b0 : (t331 == 0) = true := beq_iff_eq.mpr c55
  have c55b1 : (t331 != 0) = false := bne_eq_false_iff_eq.mpr c55
  clear c55
  by_cases c56 : a0.size + 1 ≤ 9223372036854775807; rotate_left
  ·rw [if_neg c56] at H
   exact absurd H (by simp)
  rw [if_pos c56] at H
  have c56b0 := eq_true c56
  have c56b1 : decide (a0.size + 1 ≤ 9223372036854775807) = true := decide_eq_true c56
  try have c56b2 : (9223372036854775807 < a0.size + 1) = False := eq_false (Nat.not_lt.2 c56)
  by_cases c57 : (a0 ++ (⟨#[42]⟩ : ByteArray)).size + a1.size ≤ 9223372036854775807; rotate_left
  ·rw [if_neg c57] at H
   exact absurd H (by simp)
  rw [if_pos c57] at H
  have c57b0 := eq_true c57
  have c57b1 : decide ((a0 ++ (⟨#[42]⟩ : ByteArray)).size + a1.size ≤ 9223372036854775807) = true := decide_eq_true c57
  try have c57b2 : (9223372036854775807 < (a0 ++ (⟨#[42]⟩ : ByteArray)).size + a1.size) = False := eq_false (Nat.not_lt.2 c57)
  replace H := Option.bind_eq_some_iff.mp H
  obtain ⟨⟨t334, t335⟩, A580, H⟩ := H
  replace H : ((carillonlaw01_same.f k t334 t330).bind fun t338 => (if t308 = true then (if t335 = 0 then (some t338) else (some false)) else (some false))) = some r := H
  have A58 := Aside0.mk A580
  clear A580
  replace H := Option.bind_eq_some_iff.mp H
  obtain ⟨t338, A590, H⟩ := H
  replace H : (if t308 = true then (if t335 = 0 then (some t338) else (some false)) else (some false)) = some r := H
  have A59 := Aside0.mk A590
  clear A590
  by_cases c60 : t308 = true; rotate_left
  ·replace c60 := Bool.eq_false_iff.mpr c60
   subst c60
   have H1 : (some false) = some r := by rw [if_neg (show ¬ (false = true) by decide)] at H; exact H
   clear H
   have H := H1
   clear H1
   exact absurd ((Option.some.inj H).trans hr_.out) (by decide)
  subst c60
  have H1 : (if t335 = 0 then (some t338) else (some false)) = some r := by rw [if_pos rfl] at H; exact H
  clear H
  have H := H1
  clear H1
  by_cases c61 : t335 = 0; rotate_left
  ·rw [if_neg c61] at H
   have c61b0 : (t335 == 0) = false := beq_eq_false_iff_ne.mpr c61
   have c61b1 : (t335 != 0) = true := bne_iff_ne.mpr c61
   exact absurd ((Option.some.inj H).trans hr_.out) (by decide)
  rw [if_pos c61] at H
  have c61b0 : (t335 == 0) = true := beq_iff_eq.mpr c61
  have c61b1 : (t335 != 0) = false := bne_eq_false_iff_eq.mpr c61
  clear c61
  obtain rfl := Option.some.inj H
  go_enter Tryd.func9, Tryd.ntmps9
  go_wp2_with (first | ((with_reducible refine gate_callee (f := 10) rfl ?_); refine goesL_ (some 17) rfl rfl Tryd.func10 (by kernel_rfl) rfl #[] rfl am ?_; (with_reducible refine (carillonlaw01_examples.calls  true _ tbk A5.out).mono ?_); rintro e w62 ⟨rfl, hb⟩; refine ⟨_, rfl, ?_⟩; have n0_ := Aside0.mk (below_step bw hb); clear HB; have HB := n0_; clear n0_; (try clear hb)) | ((with_reducible refine gate_callee (f := 12) rfl ?_); refine goesL_ (some 27) rfl rfl Tryd.func12 (by kernel_rfl) rfl #[.string a1, .string (⟨#[]⟩ : ByteArray)] rfl am ?_; (with_reducible refine (codec_Decode.calls k a1 (⟨#[]⟩ : ByteArray) t324 t325 _ tbk A40.out).mono ?_); rintro e w63 ⟨v326, rfl, ho0, hb⟩; refine ⟨_, rfl, ?_⟩; have n0_ := Aside0.mk (Kd.R_lower ho0 (below_size bw)); have n1_ := Aside0.mk (below_step bw hb); clear HB; have ab := n0_; have HB := n1_; clear n0_ n1_; (try clear hb); (try clear ho0)) | ((with_reducible refine gate_callee (f := 18) rfl ?_); refine goesL_ (some 33) rfl rfl Tryd.func18 (by kernel_rfl) rfl #[.string (a0 ++ a1), .string (⟨#[42]⟩ : ByteArray)] rfl am ?_; (with_reducible refine (strings_Contains.calls (a0 ++ a1) (⟨#[42]⟩ : ByteArray) false _ A42.out).mono ?_); rintro e w' ⟨rfl, ⟨nd, rfl⟩⟩; refine ⟨_, rfl, ?_⟩) | ((with_reducible refine gate_callee (f := 19) rfl ?_); refine goesL_ (some 47) rfl rfl Tryd.func19 (by kernel_rfl) rfl #[.string a1, .int .i64 (Int.tmod a2 101)] rfl am ?_; (with_reducible refine (strings_Repeat.calls a1 (Int.tmod a2 101) t329 _ A52.out).mono ?_); rintro e w64 ⟨rfl, hb⟩; refine ⟨_, rfl, ?_⟩; have n0_ := Aside0.mk (Kd.R_below (by (with_reducible repeat (first | apply Kd.R_alloc | apply Kd.R_drewN | apply Kd.R_drew)); exact ab.out) hb); have n1_ := Aside0.mk (below_step bw hb); clear ab; clear HB; have ab := n0_; have HB := n1_; clear n0_ n1_; (try clear hb)) | ((with_reducible refine gate_callee (f := 12) rfl ?_); refine goesL_ (some 50) rfl rfl Tryd.func12 (by kernel_rfl) rfl #[.string (a0 ++ t329), .string a3] rfl am ?_; (with_reducible refine (codec_Decode.calls k (a0 ++ t329) a3 t330 t331 _ tbk A54.out).mono ?_); rintro e w65 ⟨v332, rfl, ho0, hb⟩; refine ⟨_, rfl, ?_⟩; have n0_ := Aside0.mk (Kd.R_elder' (by (with_reducible repeat (first | apply Kd.R_alloc | apply Kd.R_drewN | apply Kd.R_drew)); exact ab.out) (Kd.R_base ho0) hb); have n1_ := Aside0.mk (Kd.R_lower (Kd.R_new' ho0 (Kd.R_lt (by (with_reducible repeat (first | apply Kd.R_alloc | apply Kd.R_drewN | apply Kd.R_drew)); exact ab.out))) (below_size bw)); have n2_ := Aside0.mk (below_step bw hb); clear ab; clear HB; have ab := n0_; have ad := n1_; have HB := n2_; clear n0_ n1_ n2_; (try clear hb); (try clear ho0)) | ((with_reducible refine gate_callee (f := 12) rfl ?_); refine goesL_ (some 62) rfl rfl Tryd.func12 (by kernel_rfl) rfl #[.string ((a0 ++ (⟨#[42]⟩ : ByteArray)) ++ a1), .string a3] rfl am ?_; (with_reducible refine (codec_Decode.calls k ((a0 ++ (⟨#[42]⟩ : ByteArray)) ++ a1) a3 t334 t335 _ tbk A58.out).mono ?_); rintro e w66 ⟨v336, rfl, ho0, hb⟩; refine ⟨_, rfl, ?_⟩; have n0_ := Aside0.mk (Kd.R_elder' (by (with_reducible repeat (first | apply Kd.R_alloc | apply Kd.R_drewN | apply Kd.R_drew)); exact ab.out) (Kd.R_base ho0) hb); have n1_ := Aside0.mk (Kd.R_elder' (by (with_reducible repeat (first | apply Kd.R_alloc | apply Kd.R_drewN | apply Kd.R_drew)); exact ad.out) (Kd.R_base ho0) hb); have n2_ := Aside0.mk (Kd.R_lower (Kd.R_new' (Kd.R_new' ho0 (Kd.R_lt (by (with_reducible repeat (first | apply Kd.R_alloc | apply Kd.R_drewN | apply Kd.R_drew)); exact ab.out))) (Kd.R_lt (by (with_reducible repeat (first | apply Kd.R_alloc | apply Kd.R_drewN | apply Kd.R_drew)); exact ad.out))) (below_size bw)); have n3_ := Aside0.mk (below_step bw hb); clear ab; clear ad; clear HB; have ab := n0_; have ad := n1_; have af := n2_; have HB := n3_; clear n0_ n1_ n2_ n3_; (try clear hb); (try clear ho0); obtain ⟨Ao67, co67, eo67⟩ := Kd.R_slice af.out; subst eo67; obtain ⟨Ao68, co68, eo68⟩ := Kd.R_slice ad.out; subst eo68) | ((with_reducible refine gate_callee (f := 13) rfl ?_); refine goesL_ (some 67) rfl rfl Tryd.func13 (by kernel_rfl) rfl #[.slice Ao67 t334.length co67, .slice Ao68 t330.length co68] rfl am ?_; (with_reducible refine (carillonlaw01_same.calls k _ _ t334 _ _ t330 t338 _ ?side1 ?side2 ?side3 ?side4 A59.out).mono ?_); (case side1 => repeat (first | exact (Kd.R_reads' af.out).2.2 | (with_reducible refine Kd.C_alloc ?_ _) | (with_reducible refine Kd.C_drewN ?_ _) | (with_reducible refine Kd.C_drew ?_))); (case side2 => exact (Kd.R_reads' af.out).2.1); (case side3 => repeat (first | exact (Kd.R_reads' ad.out).2.2 | (with_reducible refine Kd.C_alloc ?_ _) | (with_reducible refine Kd.C_drewN ?_ _) | (with_reducible refine Kd.C_drew ?_))); (case side4 => exact (Kd.R_reads' ad.out).2.1); rintro e w' ⟨rfl, ⟨nd, rfl⟩⟩; refine ⟨_, rfl, ?_⟩))
  go_ret
  exact ⟨er, bw⟩
 rw [if_pos c6] at H
 have c6b0 : decide (a2 < 0) = true := decide_eq_true c6
 clear c6
 replace H := Option.bind_eq_some_iff.mp H
 obtain ⟨⟨t309, t310⟩, A70, H⟩ := H
 replace H : (if a0.size + a1.size ≤ 9223372036854775807 then ((strings_Contains.f (a0 ++ a1) (⟨#[42]⟩ : ByteArray)).bind fun t313 => (if t313 = true then (some t308) else (if a1.toList = ([] : List UInt8) then (some t308) else (if t310 = 1 then (some t308) else ((strings_Repeat.f a1 (Int.tmod (wrap64 (-(wrap64 (a2 + 1)))) 101)).bind fun t314 => (if a0.size + t314.size ≤ 9223372036854775807 then ((codec_Decode.f k (a0 ++ t314) a3).bind fun bt315 => (if bt315.2 = 0 then (if a0.size + 1 ≤ 9223372036854775807 then (if (a0 ++ (⟨#[42]⟩ : ByteArray)).size + a1.size ≤ 9223372036854775807 then ((codec_Decode.f k ((a0 ++ (⟨#[42]⟩ : ByteArray)) ++ a1) a3).bind fun bt319 => ((carillonlaw01_same.f k bt319.1 bt315.1).bind fun t323 => (if t308 = true then (if bt319.2 = 0 then (some t323) else (some false)) else (some false)))) else (none)) else (none)) else (some t308))) else (none))))))) else (none)) = some r := H
 have A7 := Aside0.mk A70
 clear A70
 by_cases c8 : a0.size + a1.size ≤ 9223372036854775807; rotate_left
 ·rw [if_neg c8] at H
  exact absurd H (by simp)
 rw [if_pos c8] at H
 have c8b0 := eq_true c8
 have c8b1 : decide (a0.size + a1.size ≤ 9223372036854775807) = true := decide_eq_true c8
 try have c8b2 : (9223372036854775807 < a0.size + a1.size) = False := eq_false (Nat.not_lt.2 c8)
 replace H := Option.bind_eq_some_iff.mp H
 obtain ⟨t313, A90, H⟩ := H
 replace H : (if t313 = true then (some t308) else (if a1.toList = ([] : List UInt8) then (some t308) else (if t310 = 1 then (some t308) else ((strings_Repeat.f a1 (Int.tmod (wrap64 (-(wrap64 (a2 + 1)))) 101)).bind fun t314 => (if a0.size + t314.size ≤ 9223372036854775807 then ((codec_Decode.f k (a0 ++ t314) a3).bind fun bt315 => (if bt315.2 = 0 then (if a0.size + 1 ≤ 9223372036854775807 then (if (a0 ++ (⟨#[42]⟩ : ByteArray)).size + a1.size ≤ 9223372036854775807 then ((codec_Decode.f k ((a0 ++ (⟨#[42]⟩ : ByteArray)) ++ a1) a3).bind fun bt319 => ((carillonlaw01_same.f k bt319.1 bt315.1).bind fun t323 => (if t308 = true then (if bt319.2 = 0 then (some t323) else (some false)) else (some false)))) else (none)) else (none)) else (some t308))) else (none)))))) = some r := H
 have A9 := Aside0.mk A90
 clear A90
 by_cases c10 : t313 = true
 ·subst c10
  have H1 : (some t308) = some r := by rw [if_pos rfl] at H; exact H
  clear H
  have H := H1
  clear H1
  obtain rfl := Option.some.inj H
  go_enter Tryd.func9, Tryd.ntmps9
  go_wp2_with (first | ((with_reducible refine gate_callee (f := 10) rfl ?_); refine goesL_ (some 17) rfl rfl Tryd.func10 (by kernel_rfl) rfl #[] rfl am ?_; (with_reducible refine (carillonlaw01_examples.calls  t308 _ tbk A5.out).mono ?_); rintro e w11 ⟨rfl, hb⟩; refine ⟨_, rfl, ?_⟩; have n0_ := Aside0.mk (below_step bw hb); clear HB; have HB := n0_; clear n0_; (try clear hb)) | ((with_reducible refine gate_callee (f := 12) rfl ?_); refine goesL_ (some 27) rfl rfl Tryd.func12 (by kernel_rfl) rfl #[.string a1, .string (⟨#[]⟩ : ByteArray)] rfl am ?_; (with_reducible refine (codec_Decode.calls k a1 (⟨#[]⟩ : ByteArray) t309 t310 _ tbk A7.out).mono ?_); rintro e w12 ⟨v311, rfl, ho0, hb⟩; refine ⟨_, rfl, ?_⟩; have n0_ := Aside0.mk (Kd.R_lower ho0 (below_size bw)); have n1_ := Aside0.mk (below_step bw hb); clear HB; have aa := n0_; have HB := n1_; clear n0_ n1_; (try clear hb); (try clear ho0)) | ((with_reducible refine gate_callee (f := 18) rfl ?_); refine goesL_ (some 33) rfl rfl Tryd.func18 (by kernel_rfl) rfl #[.string (a0 ++ a1), .string (⟨#[42]⟩ : ByteArray)] rfl am ?_; (with_reducible refine (strings_Contains.calls (a0 ++ a1) (⟨#[42]⟩ : ByteArray) true _ A9.out).mono ?_); rintro e w' ⟨rfl, ⟨nd, rfl⟩⟩; refine ⟨_, rfl, ?_⟩))
  go_ret
  exact ⟨er, bw⟩
 replace c10 := Bool.eq_false_iff.mpr c10
 subst c10
 have H1 : (if a1.toList = ([] : List UInt8) then (some t308) else (if t310 = 1 then (some t308) else ((strings_Repeat.f a1 (Int.tmod (wrap64 (-(wrap64 (a2 + 1)))) 101)).bind fun t314 => (if a0.size + t314.size ≤ 9223372036854775807 then ((codec_Decode.f k (a0 ++ t314) a3).bind fun bt315 => (if bt315.2 = 0 then (if a0.size + 1 ≤ 9223372036854775807 then (if (a0 ++ (⟨#[42]⟩ : ByteArray)).size + a1.size ≤ 9223372036854775807 then ((codec_Decode.f k ((a0 ++ (⟨#[42]⟩ : ByteArray)) ++ a1) a3).bind fun bt319 => ((carillonlaw01_same.f k bt319.1 bt315.1).bind fun t323 => (if t308 = true then (if bt319.2 = 0 then (some t323) else (some false)) else (some false)))) else (none)) else (none)) else (some t308))) else (none))))) = some r := by rw [if_neg (show ¬ (false = true) by decide)] at H; exact H
 clear H
 have H := H1
 clear H1
 by_cases c13 : a1.toList = ([] : List UInt8)
 ·rw [if_pos c13] at H
  have c13b0 : (a1.toList == ([] : List UInt8)) = true := beq_iff_eq.mpr c13
  have c13b1 : (a1.toList != ([] : List UInt8)) = false := bne_eq_false_iff_eq.mpr c13
  clear c13
  obtain rfl := Option.some.inj H
  go_enter Tryd.func9, Tryd.ntmps9
  go_wp2_with (first | ((with_reducible refine gate_callee (f := 10) rfl ?_); refine goesL_ (some 17) rfl rfl Tryd.func10 (by kernel_rfl) rfl #[] rfl am ?_; (with_reducible refine (carillonlaw01_examples.calls  t308 _ tbk A5.out).mono ?_); rintro e w14 ⟨rfl, hb⟩; refine ⟨_, rfl, ?_⟩; have n0_ := Aside0.mk (below_step bw hb); clear HB; have HB := n0_; clear n0_; (try clear hb)) | ((with_reducible refine gate_callee (f := 12) rfl ?_); refine goesL_ (some 27) rfl rfl Tryd.func12 (by kernel_rfl) rfl #[.string a1, .string (⟨#[]⟩ : ByteArray)] rfl am ?_; (with_reducible refine (codec_Decode.calls k a1 (⟨#[]⟩ : ByteArray) t309 t310 _ tbk A7.out).mono ?_); rintro e w15 ⟨v311, rfl, ho0, hb⟩; refine ⟨_, rfl, ?_⟩; have n0_ := Aside0.mk (Kd.R_lower ho0 (below_size bw)); have n1_ := Aside0.mk (below_step bw hb); clear HB; have aa := n0_; have HB := n1_; clear n0_ n1_; (try clear hb); (try clear ho0)) | ((with_reducible refine gate_callee (f := 18) rfl ?_); refine goesL_ (some 33) rfl rfl Tryd.func18 (by kernel_rfl) rfl #[.string (a0 ++ a1), .string (⟨#[42]⟩ : ByteArray)] rfl am ?_; (with_reducible refine (strings_Contains.calls (a0 ++ a1) (⟨#[42]⟩ : ByteArray) false _ A9.out).mono ?_); rintro e w' ⟨rfl, ⟨nd, rfl⟩⟩; refine ⟨_, rfl, ?_⟩))
  go_ret
  exact ⟨er, bw⟩
 rw [if_neg c13] at H
 have c13b0 : (a1.toList == ([] : List UInt8)) = false := beq_eq_false_iff_ne.mpr c13
 have c13b1 : (a1.toList != ([] : List UInt8)) = true := bne_iff_ne.mpr c13
 by_cases c16 : t310 = 1
 ·rw [if_pos c16] at H
  have c16b0 : (t310 == 1) = true := beq_iff_eq.mpr c16
  have c16b1 : (t310 != 1) = false := bne_eq_false_iff_eq.mpr c16
  clear c16
  obtain rfl := Option.some.inj H
  go_enter Tryd.func9, Tryd.ntmps9
  go_wp2_with (first | ((with_reducible refine gate_callee (f := 10) rfl ?_); refine goesL_ (some 17) rfl rfl Tryd.func10 (by kernel_rfl) rfl #[] rfl am ?_; (with_reducible refine (carillonlaw01_examples.calls  t308 _ tbk A5.out).mono ?_); rintro e w17 ⟨rfl, hb⟩; refine ⟨_, rfl, ?_⟩; have n0_ := Aside0.mk (below_step bw hb); clear HB; have HB := n0_; clear n0_; (try clear hb)) | ((with_reducible refine gate_callee (f := 12) rfl ?_); refine goesL_ (some 27) rfl rfl Tryd.func12 (by kernel_rfl) rfl #[.string a1, .string (⟨#[]⟩ : ByteArray)] rfl am ?_; (with_reducible refine (codec_Decode.calls k a1 (⟨#[]⟩ : ByteArray) t309 t310 _ tbk A7.out).mono ?_); rintro e w18 ⟨v311, rfl, ho0, hb⟩; refine ⟨_, rfl, ?_⟩; have n0_ := Aside0.mk (Kd.R_lower ho0 (below_size bw)); have n1_ := Aside0.mk (below_step bw hb); clear HB; have aa := n0_; have HB := n1_; clear n0_ n1_; (try clear hb); (try clear ho0)) | ((with_reducible refine gate_callee (f := 18) rfl ?_); refine goesL_ (some 33) rfl rfl Tryd.func18 (by kernel_rfl) rfl #[.string (a0 ++ a1), .string (⟨#[42]⟩ : ByteArray)] rfl am ?_; (with_reducible refine (strings_Contains.calls (a0 ++ a1) (⟨#[42]⟩ : ByteArray) false _ A9.out).mono ?_); rintro e w' ⟨rfl, ⟨nd, rfl⟩⟩; refine ⟨_, rfl, ?_⟩))
  go_ret
  exact ⟨er, bw⟩
 rw [if_neg c16] at H
 have c16b0 : (t310 == 1) = false := beq_eq_false_iff_ne.mpr c16
 have c16b1 : (t310 != 1) = true := bne_iff_ne.mpr c16
 replace H := Option.bind_eq_some_iff.mp H
 obtain ⟨t314, A190, H⟩ := H
 replace H : (if a0.size + t314.size ≤ 9223372036854775807 then ((codec_Decode.f k (a0 ++ t314) a3).bind fun bt315 => (if bt315.2 = 0 then (if a0.size + 1 ≤ 9223372036854775807 then (if (a0 ++ (⟨#[42]⟩ : ByteArray)).size + a1.size ≤ 9223372036854775807 then ((codec_Decode.f k ((a0 ++ (⟨#[42]⟩ : ByteArray)) ++ a1) a3).bind fun bt319 => ((carillonlaw01_same.f k bt319.1 bt315.1).bind fun t323 => (if t308 = true then (if bt319.2 = 0 then (some t323) else (some false)) else (some false)))) else (none)) else (none)) else (some t308))) else (none)) = some r := H
 have A19 := Aside0.mk A190
 clear A190
 by_cases c20 : a0.size + t314.size ≤ 9223372036854775807; rotate_left
 ·rw [if_neg c20] at H
  exact absurd H (by simp)
 rw [if_pos c20] at H
 have c20b0 := eq_true c20
 have c20b1 : decide (a0.size + t314.size ≤ 9223372036854775807) = true := decide_eq_true c20
 try have c20b2 : (9223372036854775807 < a0.size + t314.size) = False := eq_false (Nat.not_lt.2 c20)
 replace H := Option.bind_eq_some_iff.mp H
 obtain ⟨⟨t315, t316⟩, A210, H⟩ := H
 replace H : (if t316 = 0 then (if a0.size + 1 ≤ 9223372036854775807 then (if (a0 ++ (⟨#[42]⟩ : ByteArray)).size + a1.size ≤ 9223372036854775807 then ((codec_Decode.f k ((a0 ++ (⟨#[42]⟩ : ByteArray)) ++ a1) a3).bind fun bt319 => ((carillonlaw01_same.f k bt319.1 t315).bind fun t323 => (if t308 = true then (if bt319.2 = 0 then (some t323) else (some false)) else (some false)))) else (none)) else (none)) else (some t308)) = some r := H
 have A21 := Aside0.mk A210
 clear A210
 by_cases c22 : t316 = 0; rotate_left
 ·rw [if_neg c22] at H
  have c22b0 : (t316 == 0) = false := beq_eq_false_iff_ne.mpr c22
  have c22b1 : (t316 != 0) = true := bne_iff_ne.mpr c22
  obtain rfl := Option.some.inj H
  go_enter Tryd.func9, Tryd.ntmps9
  go_wp2_with (first | ((with_reducible refine gate_callee (f := 10) rfl ?_); refine goesL_ (some 17) rfl rfl Tryd.func10 (by kernel_rfl) rfl #[] rfl am ?_; (with_reducible refine (carillonlaw01_examples.calls  t308 _ tbk A5.out).mono ?_); rintro e w36 ⟨rfl, hb⟩; refine ⟨_, rfl, ?_⟩; have n0_ := Aside0.mk (below_step bw hb); clear HB; have HB := n0_; clear n0_; (try clear hb)) | ((with_reducible refine gate_callee (f := 12) rfl ?_); refine goesL_ (some 27) rfl rfl Tryd.func12 (by kernel_rfl) rfl #[.string a1, .string (⟨#[]⟩ : ByteArray)] rfl am ?_; (with_reducible refine (codec_Decode.calls k a1 (⟨#[]⟩ : ByteArray) t309 t310 _ tbk A7.out).mono ?_); rintro e w37 ⟨v311, rfl, ho0, hb⟩; refine ⟨_, rfl, ?_⟩; have n0_ := Aside0.mk (Kd.R_lower ho0 (below_size bw)); have n1_ := Aside0.mk (below_step bw hb); clear HB; have aa := n0_; have HB := n1_; clear n0_ n1_; (try clear hb); (try clear ho0)) | ((with_reducible refine gate_callee (f := 18) rfl ?_); refine goesL_ (some 33) rfl rfl Tryd.func18 (by kernel_rfl) rfl #[.string (a0 ++ a1), .string (⟨#[42]⟩ : ByteArray)] rfl am ?_; (with_reducible refine (strings_Contains.calls (a0 ++ a1) (⟨#[42]⟩ : ByteArray) false _ A9.out).mono ?_); rintro e w' ⟨rfl, ⟨nd, rfl⟩⟩; refine ⟨_, rfl, ?_⟩) | ((with_reducible refine gate_callee (f := 19) rfl ?_); refine goesL_ (some 47) rfl rfl Tryd.func19 (by kernel_rfl) rfl #[.string a1, .int .i64 (Int.tmod (wrap64 (-(wrap64 (a2 + 1)))) 101)] rfl am ?_; (with_reducible refine (strings_Repeat.calls a1 (Int.tmod (wrap64 (-(wrap64 (a2 + 1)))) 101) t314 _ A19.out).mono ?_); rintro e w38 ⟨rfl, hb⟩; refine ⟨_, rfl, ?_⟩; have n0_ := Aside0.mk (Kd.R_below (by (with_reducible repeat (first | apply Kd.R_alloc | apply Kd.R_drewN | apply Kd.R_drew)); exact aa.out) hb); have n1_ := Aside0.mk (below_step bw hb); clear aa; clear HB; have aa := n0_; have HB := n1_; clear n0_ n1_; (try clear hb)) | ((with_reducible refine gate_callee (f := 12) rfl ?_); refine goesL_ (some 50) rfl rfl Tryd.func12 (by kernel_rfl) rfl #[.string (a0 ++ t314), .string a3] rfl am ?_; (with_reducible refine (codec_Decode.calls k (a0 ++ t314) a3 t315 t316 _ tbk A21.out).mono ?_); rintro e w39 ⟨v317, rfl, ho0, hb⟩; refine ⟨_, rfl, ?_⟩; have n0_ := Aside0.mk (Kd.R_elder' (by (with_reducible repeat (first | apply Kd.R_alloc | apply Kd.R_drewN | apply Kd.R_drew)); exact aa.out) (Kd.R_base ho0) hb); have n1_ := Aside0.mk (Kd.R_lower (Kd.R_new' ho0 (Kd.R_lt (by (with_reducible repeat (first | apply Kd.R_alloc | apply Kd.R_drewN | apply Kd.R_drew)); exact aa.out))) (below_size bw)); have n2_ := Aside0.mk (below_step bw hb); clear aa; clear HB; have aa := n0_; have ac := n1_; have HB := n2_; clear n0_ n1_ n2_; (try clear hb); (try clear ho0)))
  go_ret
  exact ⟨er, bw⟩
 rw [if_pos c22] at H
 have c22b0 : (t316 == 0) = true := beq_iff_eq.mpr c22
 have c22b1 : (t316 != 0) = false := bne_eq_false_iff_eq.mpr c22
 clear c22
 by_cases c23 : a0.size + 1 ≤ 9223372036854775807; rotate_left
 ·rw [if_neg c23] at H
  exact absurd H (by simp)
 rw [if_pos c23] at H
 have c23b0 := eq_true c23
 have c23b1 : decide (a0.size + 1 ≤ 9223372036854775807) = true := decide_eq_true c23
 try have c23b2 : (9223372036854775807 < a0.size + 1) = False := eq_false (Nat.not_lt.2 c23)
 by_cases c24 : (a0 ++ (⟨#[42]⟩ : ByteArray)).size + a1.size ≤ 9223372036854775807; rotate_left
 ·rw [if_neg c24] at H
  exact absurd H (by simp)
 rw [if_pos c24] at H
 have c24b0 := eq_true c24
 have c24b1 : decide ((a0 ++ (⟨#[42]⟩ : ByteArray)).size + a1.size ≤ 9223372036854775807) = true := decide_eq_true c24
 try have c24b2 : (9223372036854775807 < (a0 ++ (⟨#[42]⟩ : ByteArray)).size + a1.size) = False := eq_false (Nat.not_lt.2 c24)
 replace H := Option.bind_eq_some_iff.mp H
 obtain ⟨⟨t319, t320⟩, A250, H⟩ := H
 replace H : ((carillonlaw01_same.f k t319 t315).bind fun t323 => (if t308 = true then (if t320 = 0 then (some t323) else (some false)) else (some false))) = some r := H
 have A25 := Aside0.mk A250
 clear A250
 replace H := Option.bind_eq_some_iff.mp H
 obtain ⟨t323, A260, H⟩ := H
 replace H : (if t308 = true then (if t320 = 0 then (some t323) else (some false)) else (some false)) = some r := H
 have A26 := Aside0.mk A260
 clear A260
 by_cases c27 : t308 = true; rotate_left
 ·replace c27 := Bool.eq_false_iff.mpr c27
  subst c27
  have H1 : (some false) = some r := by rw [if_neg (show ¬ (false = true) by decide)] at H; exact H
  clear H
  have H := H1
  clear H1
  exact absurd ((Option.some.inj H).trans hr_.out) (by decide)
 subst c27
 have H1 : (if t320 = 0 then (some t323) else (some false)) = some r := by rw [if_pos rfl] at H; exact H
 clear H
 have H := H1
 clear H1
 by_cases c28 : t320 = 0; rotate_left
 ·rw [if_neg c28] at H
  have c28b0 : (t320 == 0) = false := beq_eq_false_iff_ne.mpr c28
  have c28b1 : (t320 != 0) = true := bne_iff_ne.mpr c28
  exact absurd ((Option.some.inj H).trans hr_.out) (by decide)
 rw [if_pos c28] at H
 have c28b0 : (t320 == 0) = true := beq_iff_eq.mpr c28
 have c28b1 : (t320 != 0) = false := bne_eq_false_iff_eq.mpr c28
 clear c28
 obtain rfl := Option.some.inj H
 go_enter Tryd.func9, Tryd.ntmps9
 go_wp2_with (first | ((with_reducible refine gate_callee (f := 10) rfl ?_); refine goesL_ (some 17) rfl rfl Tryd.func10 (by kernel_rfl) rfl #[] rfl am ?_; (with_reducible refine (carillonlaw01_examples.calls  true _ tbk A5.out).mono ?_); rintro e w29 ⟨rfl, hb⟩; refine ⟨_, rfl, ?_⟩; have n0_ := Aside0.mk (below_step bw hb); clear HB; have HB := n0_; clear n0_; (try clear hb)) | ((with_reducible refine gate_callee (f := 12) rfl ?_); refine goesL_ (some 27) rfl rfl Tryd.func12 (by kernel_rfl) rfl #[.string a1, .string (⟨#[]⟩ : ByteArray)] rfl am ?_; (with_reducible refine (codec_Decode.calls k a1 (⟨#[]⟩ : ByteArray) t309 t310 _ tbk A7.out).mono ?_); rintro e w30 ⟨v311, rfl, ho0, hb⟩; refine ⟨_, rfl, ?_⟩; have n0_ := Aside0.mk (Kd.R_lower ho0 (below_size bw)); have n1_ := Aside0.mk (below_step bw hb); clear HB; have aa := n0_; have HB := n1_; clear n0_ n1_; (try clear hb); (try clear ho0)) | ((with_reducible refine gate_callee (f := 18) rfl ?_); refine goesL_ (some 33) rfl rfl Tryd.func18 (by kernel_rfl) rfl #[.string (a0 ++ a1), .string (⟨#[42]⟩ : ByteArray)] rfl am ?_; (with_reducible refine (strings_Contains.calls (a0 ++ a1) (⟨#[42]⟩ : ByteArray) false _ A9.out).mono ?_); rintro e w' ⟨rfl, ⟨nd, rfl⟩⟩; refine ⟨_, rfl, ?_⟩) | ((with_reducible refine gate_callee (f := 19) rfl ?_); refine goesL_ (some 47) rfl rfl Tryd.func19 (by kernel_rfl) rfl #[.string a1, .int .i64 (Int.tmod (wrap64 (-(wrap64 (a2 + 1)))) 101)] rfl am ?_; (with_reducible refine (strings_Repeat.calls a1 (Int.tmod (wrap64 (-(wrap64 (a2 + 1)))) 101) t314 _ A19.out).mono ?_); rintro e w31 ⟨rfl, hb⟩; refine ⟨_, rfl, ?_⟩; have n0_ := Aside0.mk (Kd.R_below (by (with_reducible repeat (first | apply Kd.R_alloc | apply Kd.R_drewN | apply Kd.R_drew)); exact aa.out) hb); have n1_ := Aside0.mk (below_step bw hb); clear aa; clear HB; have aa := n0_; have HB := n1_; clear n0_ n1_; (try clear hb)) | ((with_reducible refine gate_callee (f := 12) rfl ?_); refine goesL_ (some 50) rfl rfl Tryd.func12 (by kernel_rfl) rfl #[.string (a0 ++ t314), .string a3] rfl am ?_; (with_reducible refine (codec_Decode.calls k (a0 ++ t314) a3 t315 t316 _ tbk A21.out).mono ?_); rintro e w32 ⟨v317, rfl, ho0, hb⟩; refine ⟨_, rfl, ?_⟩; have n0_ := Aside0.mk (Kd.R_elder' (by (with_reducible repeat (first | apply Kd.R_alloc | apply Kd.R_drewN | apply Kd.R_drew)); exact aa.out) (Kd.R_base ho0) hb); have n1_ := Aside0.mk (Kd.R_lower (Kd.R_new' ho0 (Kd.R_lt (by (with_reducible repeat (first | apply Kd.R_alloc | apply Kd.R_drewN | apply Kd.R_drew)); exact aa.out))) (below_size bw)); have n2_ := Aside0.mk (below_step bw hb); clear aa; clear HB; have aa := n0_; have ac := n1_; have HB := n2_; clear n0_ n1_ n2_; (try clear hb); (try clear ho0)) | ((with_reducible refine gate_callee (f := 12) rfl ?_); refine goesL_ (some 62) rfl rfl Tryd.func12 (by kernel_rfl) rfl #[.string ((a0 ++ (⟨#[42]⟩ : ByteArray)) ++ a1), .string a3] rfl am ?_; (with_reducible refine (codec_Decode.calls k ((a0 ++ (⟨#[42]⟩ : ByteArray)) ++ a1) a3 t319 t320 _ tbk A25.out).mono ?_); rintro e w33 ⟨v321, rfl, ho0, hb⟩; refine ⟨_, rfl, ?_⟩; have n0_ := Aside0.mk (Kd.R_elder' (by (with_reducible repeat (first | apply Kd.R_alloc | apply Kd.R_drewN | apply Kd.R_drew)); exact aa.out) (Kd.R_base ho0) hb); have n1_ := Aside0.mk (Kd.R_elder' (by (with_reducible repeat (first | apply Kd.R_alloc | apply Kd.R_drewN | apply Kd.R_drew)); exact ac.out) (Kd.R_base ho0) hb); have n2_ := Aside0.mk (Kd.R_lower (Kd.R_new' (Kd.R_new' ho0 (Kd.R_lt (by (with_reducible repeat (first | apply Kd.R_alloc | apply Kd.R_drewN | apply Kd.R_drew)); exact aa.out))) (Kd.R_lt (by (with_reducible repeat (first | apply Kd.R_alloc | apply Kd.R_drewN | apply Kd.R_drew)); exact ac.out))) (below_size bw)); have n3_ := Aside0.mk (below_step bw hb); clear aa; clear ac; clear HB; have aa := n0_; have ac := n1_; have ae := n2_; have HB := n3_; clear n0_ n1_ n2_ n3_; (try clear hb); (try clear ho0); obtain ⟨Ao34, co34, eo34⟩ := Kd.R_slice ae.out; subst eo34; obtain ⟨Ao35, co35, eo35⟩ := Kd.R_slice ac.out; subst eo35) | ((with_reducible refine gate_callee (f := 13) rfl ?_); refine goesL_ (some 67) rfl rfl Tryd.func13 (by kernel_rfl) rfl #[.slice Ao34 t319.length co34, .slice Ao35 t315.length co35] rfl am ?_; (with_reducible refine (carillonlaw01_same.calls k _ _ t319 _ _ t315 t323 _ ?side1 ?side2 ?side3 ?side4 A26.out).mono ?_); (case side1 => repeat (first | exact (Kd.R_reads' ae.out).2.2 | (with_reducible refine Kd.C_alloc ?_ _) | (with_reducible refine Kd.C_drewN ?_ _) | (with_reducible refine Kd.C_drew ?_))); (case side2 => exact (Kd.R_reads' ae.out).2.1); (case side3 => repeat (first | exact (Kd.R_reads' ac.out).2.2 | (with_reducible refine Kd.C_alloc ?_ _) | (with_reducible refine Kd.C_drewN ?_ _) | (with_reducible refine Kd.C_drew ?_))); (case side4 => exact (Kd.R_reads' ac.out).2.1); rintro e w' ⟨rfl, ⟨nd, rfl⟩⟩; refine ⟨_, rfl, ?_⟩))
 go_ret
 exact ⟨er, bw⟩

end Go.Proofs.YthkncdnpfoccjaaDoor.P
