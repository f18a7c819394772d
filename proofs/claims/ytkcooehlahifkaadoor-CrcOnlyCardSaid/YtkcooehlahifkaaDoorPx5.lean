-- Printed by this session's program wip/xp.py (a turned copy of the kit's printer): functions, their contracts.
import Derived.Test.YtkcooehlahifkaaDoorPx0
import Derived.Test.YtkcooehlahifkaaDoorPx1
namespace Go.Proofs.YtkcooehlahifkaaDoor.P
open Go.RowKit Go.Proofs.YtkcooehlahifkaaDoorW.PrintWords Go.Proofs.YtkcooehlahifkaaDoorW.PrintLast Go.Proofs.YtkcooehlahifkaaDoorW.PrintMore
attribute [local go_sem] max2_int min2_int max_two min_two max_three min_three max_four min_four   -- for this text's walks alone
set_option linter.unusedVariables false
set_option linter.unusedSimpArgs false

/-! ### carillonlaw02_CrcOnly: function 11 -/
def carillonlaw02_CrcOnly.f (a0 : ByteArray) (a1 : ByteArray) : Option (Bool) := (carillonlaw02_examples.f).bind fun t219 => ((crc_Frame.f a0).bind fun bt220 => ((crc_Frame.f a1).bind fun bt222 => (if bt220.2 = 0 then (if bt222.2 = 0 then (if t219 = true then (if ((bt220.1.toList == bt222.1.toList) == (a0.toList == a1.toList)) = true then (some ((bt220.1.size : Int) == (wrap64 ((a0.size : Int) + 8)))) else (some false)) else (some false)) else (if t219 = true then (if (a0.size : Int) > 400000 then (some true) else (some (decide ((a1.size : Int) > 400000)))) else (some false))) else (if t219 = true then (if (a0.size : Int) > 400000 then (some true) else (some (decide ((a1.size : Int) > 400000)))) else (some false)))))
set_option maxHeartbeats 8000000 in
set_option maxRecDepth 100000 in
theorem carillonlaw02_CrcOnly.calls (a0 : ByteArray) (a1 : ByteArray) (r : Bool) (w : World) (hr_ : Aside0 (r = true)) (HT_ : TabOk w) (h : carillonlaw02_CrcOnly.f a0 a1 = some r) :
    Calls Tryd.prog 11 #[.string a0, .string a1] w fun e w' => e = .returned (.bool r) ∧ Below w.heap.size w w' := by
  have HT := Aside0.mk HT_
  clear HT_
  have HB := Aside0.mk (Below.refl w.heap.size w)
  have H : ((carillonlaw02_examples.f).bind fun t219 => ((crc_Frame.f a0).bind fun bt220 => ((crc_Frame.f a1).bind fun bt222 => (if bt220.2 = 0 then (if bt222.2 = 0 then (if t219 = true then (if ((bt220.1.toList == bt222.1.toList) == (a0.toList == a1.toList)) = true then (some ((bt220.1.size : Int) == (wrap64 ((a0.size : Int) + 8)))) else (some false)) else (some false)) else (if t219 = true then (if (a0.size : Int) > 400000 then (some true) else (some (decide ((a1.size : Int) > 400000)))) else (some false))) else (if t219 = true then (if (a0.size : Int) > 400000 then (some true) else (some (decide ((a1.size : Int) > 400000)))) else (some false)))))) = some r := h
  clear h
  replace H := Option.bind_eq_some_iff.mp H
  obtain ⟨t219, A30, H⟩ := H
  replace H : ((crc_Frame.f a0).bind fun bt220 => ((crc_Frame.f a1).bind fun bt222 => (if bt220.2 = 0 then (if bt222.2 = 0 then (if t219 = true then (if ((bt220.1.toList == bt222.1.toList) == (a0.toList == a1.toList)) = true then (some ((bt220.1.size : Int) == (wrap64 ((a0.size : Int) + 8)))) else (some false)) else (some false)) else (if t219 = true then (if (a0.size : Int) > 400000 then (some true) else (some (decide ((a1.size : Int) > 400000)))) else (some false))) else (if t219 = true then (if (a0.size : Int) > 400000 then (some true) else (some (decide ((a1.size : Int) > 400000)))) else (some false))))) = some r := H
  have A3 := Aside0.mk A30
  clear A30
  replace H := Option.bind_eq_some_iff.mp H
  obtain ⟨⟨t220, t221⟩, A40, H⟩ := H
  replace H : ((crc_Frame.f a1).bind fun bt222 => (if t221 = 0 then (if bt222.2 = 0 then (if t219 = true then (if ((t220.toList == bt222.1.toList) == (a0.toList == a1.toList)) = true then (some ((t220.size : Int) == (wrap64 ((a0.size : Int) + 8)))) else (some false)) else (some false)) else (if t219 = true then (if (a0.size : Int) > 400000 then (some true) else (some (decide ((a1.size : Int) > 400000)))) else (some false))) else (if t219 = true then (if (a0.size : Int) > 400000 then (some true) else (some (decide ((a1.size : Int) > 400000)))) else (some false)))) = some r := H
  have A4 := Aside0.mk A40
  clear A40
  replace H := Option.bind_eq_some_iff.mp H
  obtain ⟨⟨t222, t223⟩, A50, H⟩ := H
  replace H : (if t221 = 0 then (if t223 = 0 then (if t219 = true then (if ((t220.toList == t222.toList) == (a0.toList == a1.toList)) = true then (some ((t220.size : Int) == (wrap64 ((a0.size : Int) + 8)))) else (some false)) else (some false)) else (if t219 = true then (if (a0.size : Int) > 400000 then (some true) else (some (decide ((a1.size : Int) > 400000)))) else (some false))) else (if t219 = true then (if (a0.size : Int) > 400000 then (some true) else (some (decide ((a1.size : Int) > 400000)))) else (some false))) = some r := H
  have A5 := Aside0.mk A50
  clear A50
  by_cases c6 : t221 = 0
  · rw [if_pos c6] at H
    have c6b0 : (t221 == 0) = true := beq_iff_eq.mpr c6
    have c6b1 : (t221 != 0) = false := bne_eq_false_iff_eq.mpr c6
    clear c6
    by_cases c7 : t223 = 0
    · rw [if_pos c7] at H
      have c7b0 : (t223 == 0) = true := beq_iff_eq.mpr c7
      have c7b1 : (t223 != 0) = false := bne_eq_false_iff_eq.mpr c7
      clear c7
      by_cases c8 : t219 = true
      · subst c8
        have H1 : (if ((t220.toList == t222.toList) == (a0.toList == a1.toList)) = true then (some ((t220.size : Int) == (wrap64 ((a0.size : Int) + 8)))) else (some false)) = some r := by rw [if_pos rfl] at H; exact H
        clear H
        have H := H1
        clear H1
        by_cases c9 : ((t220.toList == t222.toList) == (a0.toList == a1.toList)) = true
        · rw [if_pos c9] at H
          have c9b0 : ((t220.toList == t222.toList) == (a0.toList == a1.toList)) = true := c9
          (try (have c9b1 : decide ((t220.toList == t222.toList) = (a0.toList == a1.toList)) = true := by simpa using c9))
          (try (have c9b2 : ((t220.toList == t222.toList) == (a0.toList == a1.toList)) = true := by simpa using c9))
          clear c9
          obtain rfl := Option.some.inj H
          go_enter Tryd.func11, Tryd.ntmps11
          go_wp2_with (first | ((with_reducible refine gate_callee (f := 12) rfl ?_); refine goesL_ (some 10) rfl rfl Tryd.func12 (by kernel_rfl) rfl #[] rfl am ?_; (with_reducible refine (carillonlaw02_examples.calls  true _ tbk A3.out).mono ?_); rintro e w10 ⟨rfl, hb⟩; refine ⟨_, rfl, ?_⟩; have n0_ := Aside0.mk (below_step bw hb); clear HB; have HB := n0_; clear n0_; (try clear hb); (try clear hb2); (try clear hk); (try clear hi)) | ((with_reducible refine gate_callee (f := 17) rfl ?_); refine goesL_ (some 13) rfl rfl Tryd.func17 (by kernel_rfl) rfl #[.string a0] rfl am ?_; (with_reducible refine (crc_Frame.calls a0 t220 t221 _ tbk A4.out).mono ?_); rintro e w11 ⟨rfl, hb⟩; refine ⟨_, rfl, ?_⟩; have n0_ := Aside0.mk (below_step bw hb); clear HB; have HB := n0_; clear n0_; (try clear hb); (try clear hb2); (try clear hk); (try clear hi)) | ((with_reducible refine gate_callee (f := 17) rfl ?_); refine goesL_ (some 18) rfl rfl Tryd.func17 (by kernel_rfl) rfl #[.string a1] rfl am ?_; (with_reducible refine (crc_Frame.calls a1 t222 t223 _ tbk A5.out).mono ?_); rintro e w12 ⟨rfl, hb⟩; refine ⟨_, rfl, ?_⟩; have n0_ := Aside0.mk (below_step bw hb); clear HB; have HB := n0_; clear n0_; (try clear hb); (try clear hb2); (try clear hk); (try clear hi)))
          go_ret
          exact ⟨er, bw⟩
        · rw [if_neg c9] at H
          have c9b0 : ((t220.toList == t222.toList) == (a0.toList == a1.toList)) = false := by simpa using c9
          (try (have c9b1 : decide ((t220.toList == t222.toList) = (a0.toList == a1.toList)) = false := by simpa using c9))
          (try (have c9b2 : ((t220.toList == t222.toList) == (a0.toList == a1.toList)) = false := by simpa using c9))
          (try (have c9b3 : ¬ ((t220.toList == t222.toList) = (a0.toList == a1.toList)) := by simpa using c9))
          clear c9
          exact absurd ((Option.some.inj H).trans hr_.out) (by decide)
      · replace c8 := Bool.eq_false_iff.mpr c8
        subst c8
        have H1 : (some false) = some r := by rw [if_neg (show ¬ (false = true) by decide)] at H; exact H
        clear H
        have H := H1
        clear H1
        exact absurd ((Option.some.inj H).trans hr_.out) (by decide)
    · rw [if_neg c7] at H
      have c7b0 : (t223 == 0) = false := beq_eq_false_iff_ne.mpr c7
      have c7b1 : (t223 != 0) = true := bne_iff_ne.mpr c7
      by_cases c13 : t219 = true
      · subst c13
        have H1 : (if (a0.size : Int) > 400000 then (some true) else (some (decide ((a1.size : Int) > 400000)))) = some r := by rw [if_pos rfl] at H; exact H
        clear H
        have H := H1
        clear H1
        by_cases c14 : (a0.size : Int) > 400000
        · rw [if_pos c14] at H
          have c14b0 : decide (400000 < (a0.size : Int)) = true := decide_eq_true c14
          have c14b1 : decide (400000 < a0.size) = true := decide_eq_true (by omega)
          clear c14
          obtain rfl := Option.some.inj H
          go_enter Tryd.func11, Tryd.ntmps11
          go_wp2_with (first | ((with_reducible refine gate_callee (f := 12) rfl ?_); refine goesL_ (some 10) rfl rfl Tryd.func12 (by kernel_rfl) rfl #[] rfl am ?_; (with_reducible refine (carillonlaw02_examples.calls  true _ tbk A3.out).mono ?_); rintro e w15 ⟨rfl, hb⟩; refine ⟨_, rfl, ?_⟩; have n0_ := Aside0.mk (below_step bw hb); clear HB; have HB := n0_; clear n0_; (try clear hb); (try clear hb2); (try clear hk); (try clear hi)) | ((with_reducible refine gate_callee (f := 17) rfl ?_); refine goesL_ (some 13) rfl rfl Tryd.func17 (by kernel_rfl) rfl #[.string a0] rfl am ?_; (with_reducible refine (crc_Frame.calls a0 t220 t221 _ tbk A4.out).mono ?_); rintro e w16 ⟨rfl, hb⟩; refine ⟨_, rfl, ?_⟩; have n0_ := Aside0.mk (below_step bw hb); clear HB; have HB := n0_; clear n0_; (try clear hb); (try clear hb2); (try clear hk); (try clear hi)) | ((with_reducible refine gate_callee (f := 17) rfl ?_); refine goesL_ (some 18) rfl rfl Tryd.func17 (by kernel_rfl) rfl #[.string a1] rfl am ?_; (with_reducible refine (crc_Frame.calls a1 t222 t223 _ tbk A5.out).mono ?_); rintro e w17 ⟨rfl, hb⟩; refine ⟨_, rfl, ?_⟩; have n0_ := Aside0.mk (below_step bw hb); clear HB; have HB := n0_; clear n0_; (try clear hb); (try clear hb2); (try clear hk); (try clear hi)))
          go_ret
          exact ⟨er, bw⟩
        · rw [if_neg c14] at H
          have c14b0 : decide (400000 < (a0.size : Int)) = false := decide_eq_false c14
          have c14b1 : decide (400000 < a0.size) = false := decide_eq_false (by omega)
          clear c14
          obtain rfl := Option.some.inj H
          go_enter Tryd.func11, Tryd.ntmps11
          go_wp2_with (first | ((with_reducible refine gate_callee (f := 12) rfl ?_); refine goesL_ (some 10) rfl rfl Tryd.func12 (by kernel_rfl) rfl #[] rfl am ?_; (with_reducible refine (carillonlaw02_examples.calls  true _ tbk A3.out).mono ?_); rintro e w18 ⟨rfl, hb⟩; refine ⟨_, rfl, ?_⟩; have n0_ := Aside0.mk (below_step bw hb); clear HB; have HB := n0_; clear n0_; (try clear hb); (try clear hb2); (try clear hk); (try clear hi)) | ((with_reducible refine gate_callee (f := 17) rfl ?_); refine goesL_ (some 13) rfl rfl Tryd.func17 (by kernel_rfl) rfl #[.string a0] rfl am ?_; (with_reducible refine (crc_Frame.calls a0 t220 t221 _ tbk A4.out).mono ?_); rintro e w19 ⟨rfl, hb⟩; refine ⟨_, rfl, ?_⟩; have n0_ := Aside0.mk (below_step bw hb); clear HB; have HB := n0_; clear n0_; (try clear hb); (try clear hb2); (try clear hk); (try clear hi)) | ((with_reducible refine gate_callee (f := 17) rfl ?_); refine goesL_ (some 18) rfl rfl Tryd.func17 (by kernel_rfl) rfl #[.string a1] rfl am ?_; (with_reducible refine (crc_Frame.calls a1 t222 t223 _ tbk A5.out).mono ?_); rintro e w20 ⟨rfl, hb⟩; refine ⟨_, rfl, ?_⟩; have n0_ := Aside0.mk (below_step bw hb); clear HB; have HB := n0_; clear n0_; (try clear hb); (try clear hb2); (try clear hk); (try clear hi)))
          go_ret
          exact ⟨er, bw⟩
      · replace c13 := Bool.eq_false_iff.mpr c13
        subst c13
        have H1 : (some false) = some r := by rw [if_neg (show ¬ (false = true) by decide)] at H; exact H
        clear H
        have H := H1
        clear H1
        exact absurd ((Option.some.inj H).trans hr_.out) (by decide)
  · rw [if_neg c6] at H
    have c6b0 : (t221 == 0) = false := beq_eq_false_iff_ne.mpr c6
    have c6b1 : (t221 != 0) = true := bne_iff_ne.mpr c6
    by_cases c21 : t219 = true
    · subst c21
      have H1 : (if (a0.size : Int) > 400000 then (some true) else (some (decide ((a1.size : Int) > 400000)))) = some r := by rw [if_pos rfl] at H; exact H
      clear H
      have H := H1
      clear H1
      by_cases c22 : (a0.size : Int) > 400000
      · rw [if_pos c22] at H
        have c22b0 : decide (400000 < (a0.size : Int)) = true := decide_eq_true c22
        have c22b1 : decide (400000 < a0.size) = true := decide_eq_true (by omega)
        clear c22
        obtain rfl := Option.some.inj H
        go_enter Tryd.func11, Tryd.ntmps11
        go_wp2_with (first | ((with_reducible refine gate_callee (f := 12) rfl ?_); refine goesL_ (some 10) rfl rfl Tryd.func12 (by kernel_rfl) rfl #[] rfl am ?_; (with_reducible refine (carillonlaw02_examples.calls  true _ tbk A3.out).mono ?_); rintro e w23 ⟨rfl, hb⟩; refine ⟨_, rfl, ?_⟩; have n0_ := Aside0.mk (below_step bw hb); clear HB; have HB := n0_; clear n0_; (try clear hb); (try clear hb2); (try clear hk); (try clear hi)) | ((with_reducible refine gate_callee (f := 17) rfl ?_); refine goesL_ (some 13) rfl rfl Tryd.func17 (by kernel_rfl) rfl #[.string a0] rfl am ?_; (with_reducible refine (crc_Frame.calls a0 t220 t221 _ tbk A4.out).mono ?_); rintro e w24 ⟨rfl, hb⟩; refine ⟨_, rfl, ?_⟩; have n0_ := Aside0.mk (below_step bw hb); clear HB; have HB := n0_; clear n0_; (try clear hb); (try clear hb2); (try clear hk); (try clear hi)) | ((with_reducible refine gate_callee (f := 17) rfl ?_); refine goesL_ (some 18) rfl rfl Tryd.func17 (by kernel_rfl) rfl #[.string a1] rfl am ?_; (with_reducible refine (crc_Frame.calls a1 t222 t223 _ tbk A5.out).mono ?_); rintro e w25 ⟨rfl, hb⟩; refine ⟨_, rfl, ?_⟩; have n0_ := Aside0.mk (below_step bw hb); clear HB; have HB := n0_; clear n0_; (try clear hb); (try clear hb2); (try clear hk); (try clear hi)))
        go_ret
        exact ⟨er, bw⟩
      · rw [if_neg c22] at H
        have c22b0 : decide (400000 < (a0.size : Int)) = false := decide_eq_false c22
        have c22b1 : decide (400000 < a0.size) = false := decide_eq_false (by omega)
        clear c22
        obtain rfl := Option.some.inj H
        go_enter Tryd.func11, Tryd.ntmps11
        go_wp2_with (first | ((with_reducible refine gate_callee (f := 12) rfl ?_); refine goesL_ (some 10) rfl rfl Tryd.func12 (by kernel_rfl) rfl #[] rfl am ?_; (with_reducible refine (carillonlaw02_examples.calls  true _ tbk A3.out).mono ?_); rintro e w26 ⟨rfl, hb⟩; refine ⟨_, rfl, ?_⟩; have n0_ := Aside0.mk (below_step bw hb); clear HB; have HB := n0_; clear n0_; (try clear hb); (try clear hb2); (try clear hk); (try clear hi)) | ((with_reducible refine gate_callee (f := 17) rfl ?_); refine goesL_ (some 13) rfl rfl Tryd.func17 (by kernel_rfl) rfl #[.string a0] rfl am ?_; (with_reducible refine (crc_Frame.calls a0 t220 t221 _ tbk A4.out).mono ?_); rintro e w27 ⟨rfl, hb⟩; refine ⟨_, rfl, ?_⟩; have n0_ := Aside0.mk (below_step bw hb); clear HB; have HB := n0_; clear n0_; (try clear hb); (try clear hb2); (try clear hk); (try clear hi)) | ((with_reducible refine gate_callee (f := 17) rfl ?_); refine goesL_ (some 18) rfl rfl Tryd.func17 (by kernel_rfl) rfl #[.string a1] rfl am ?_; (with_reducible refine (crc_Frame.calls a1 t222 t223 _ tbk A5.out).mono ?_); rintro e w28 ⟨rfl, hb⟩; refine ⟨_, rfl, ?_⟩; have n0_ := Aside0.mk (below_step bw hb); clear HB; have HB := n0_; clear n0_; (try clear hb); (try clear hb2); (try clear hk); (try clear hi)))
        go_ret
        exact ⟨er, bw⟩
    · replace c21 := Bool.eq_false_iff.mpr c21
      subst c21
      have H1 : (some false) = some r := by rw [if_neg (show ¬ (false = true) by decide)] at H; exact H
      clear H
      have H := H1
      clear H1
      exact absurd ((Option.some.inj H).trans hr_.out) (by decide)

end Go.Proofs.YtkcooehlahifkaaDoor.P
