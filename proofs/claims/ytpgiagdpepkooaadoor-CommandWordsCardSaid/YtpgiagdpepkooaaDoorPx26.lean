-- Printed by this session's program wip/xp.py (a turned copy of the kit's printer): functions, their contracts.
import Derived.Test.YtpgiagdpepkooaaDoorPx0
import Derived.Test.YtpgiagdpepkooaaDoorPx3
import Derived.Test.YtpgiagdpepkooaaDoorPx28
namespace Go.Proofs.YtpgiagdpepkooaaDoor.P
open Go.RowKit Go.Proofs.YtpgiagdpepkooaaDoorW.PrintWords Go.Proofs.YtpgiagdpepkooaaDoorW.PrintLast Go.Proofs.YtpgiagdpepkooaaDoorW.PrintMore
attribute [local go_sem] max2_int min2_int max_two min_two max_three min_three max_four min_four   -- for this text's walks alone
set_option linter.unusedVariables false
set_option linter.unusedSimpArgs false

/-! ### carillonlaw14_CommandWords: function 9 -/
mutual
def carillonlaw14_CommandWords.j0 : Nat → ByteArray → Bool → Bool → Bool → Option (Bool)
 | 0, _, _, _, _ => none
 | k + 1, x0, x5, x6, x53 => if x53 = true then (some false) else (carillonlaw14_CommandWords.l0 k x0 x5 x6 0)
def carillonlaw14_CommandWords.l0 : Nat → ByteArray → Bool → Bool → Int → Option (Bool)
 | 0, _, _, _, _ => none
 | k + 1, x0, x5, x6, x9 => if x9 < (x0.size : Int) then (if x6 = true then (if 0 ≤ x9 then (if (bt x0 x9) ≥ 97 then (if (bt x0 x9) ≤ 122 then (carillonlaw14_CommandWords.l0 k x0 x5 x6 (wrap64 (x9 + 1))) else (if (bt x0 x9) ≥ 48 then (if ((bt x0 x9) ≤ 57) then (carillonlaw14_CommandWords.l0 k x0 x5 x6 (wrap64 (x9 + 1))) else (some false)) else (some false))) else (if (bt x0 x9) ≥ 48 then (if ((bt x0 x9) ≤ 57) then (carillonlaw14_CommandWords.l0 k x0 x5 x6 (wrap64 (x9 + 1))) else (some false)) else (some false))) else (none)) else (carillonlaw14_CommandWords.l0 k x0 x5 x6 (wrap64 (x9 + 1)))) else (if x5 = true then (if x6 = true then (some (decide ((x0.size : Int) ≥ 1))) else (some true)) else (some false))
end
def carillonlaw14_CommandWords.f (k : Nat) (a0 : ByteArray) (a1 : ByteArray) : Option (Bool) := (carillonlaw14_examples.f).bind fun t761 => ((command_Word.f a0).bind fun t762 => ((command_Word.f a1).bind fun t763 => (if a0.size + a1.size ≤ 9223372036854775807 then ((command_Word.f (a0 ++ a1)).bind fun t764 => (if t762 = true then (if t763 = true then (if (t764 != (decide ((wrap64 ((a0.size : Int) + (a1.size : Int))) ≤ 20))) = true then (carillonlaw14_CommandWords.j0 k a0 t761 t762 true) else (if t764 = true then (if (a0.size : Int) > 0 then (if (a1.size : Int) > 0 then (carillonlaw14_CommandWords.j0 k a0 t761 t762 (!t763)) else (carillonlaw14_CommandWords.j0 k a0 t761 t762 false)) else (if (a1.size : Int) > 0 then (carillonlaw14_CommandWords.j0 k a0 t761 t762 (!t763)) else (carillonlaw14_CommandWords.j0 k a0 t761 t762 false))) else (carillonlaw14_CommandWords.j0 k a0 t761 t762 false))) else (if t764 = true then (if (a0.size : Int) > 0 then (if (a1.size : Int) > 0 then (carillonlaw14_CommandWords.j0 k a0 t761 t762 (!t763)) else (carillonlaw14_CommandWords.j0 k a0 t761 t762 false)) else (if (a1.size : Int) > 0 then (carillonlaw14_CommandWords.j0 k a0 t761 t762 (!t763)) else (carillonlaw14_CommandWords.j0 k a0 t761 t762 false))) else (carillonlaw14_CommandWords.j0 k a0 t761 t762 false))) else (if t764 = true then (if (a0.size : Int) > 0 then (carillonlaw14_CommandWords.j0 k a0 t761 t762 true) else (if (a1.size : Int) > 0 then (carillonlaw14_CommandWords.j0 k a0 t761 t762 (!t763)) else (carillonlaw14_CommandWords.j0 k a0 t761 t762 false))) else (carillonlaw14_CommandWords.j0 k a0 t761 t762 false)))) else (none))))
theorem carillonlaw14_CommandWords.mono_l : ∀ k, (∀ y0 y1 y2 y3, LeO (carillonlaw14_CommandWords.j0 k y0 y1 y2 y3) (carillonlaw14_CommandWords.j0 (k + 1) y0 y1 y2 y3)) ∧ (∀ y0 y1 y2 y3, LeO (carillonlaw14_CommandWords.l0 k y0 y1 y2 y3) (carillonlaw14_CommandWords.l0 (k + 1) y0 y1 y2 y3))
 | 0 => ⟨fun _ _ _ _ r h => by simp [carillonlaw14_CommandWords.j0] at h, fun _ _ _ _ r h => by simp [carillonlaw14_CommandWords.l0] at h⟩
 | k + 1 => by
  obtain ⟨ih0, ih1⟩ := carillonlaw14_CommandWords.mono_l k
  refine ⟨?_, ?_⟩
  ·intro y0 y1 y2 y3
   unfold carillonlaw14_CommandWords.j0
   repeat' first
   | (with_reducible exact ih0 _ _ _ _)
   | (with_reducible exact ih1 _ _ _ _)
   | (with_reducible exact LeO.refl _)
   | (with_reducible exact LeO.none _)
   | (with_reducible refine LeO.ite ?_ ?_)
   | (with_reducible refine LeO.bind ?_ (fun _ => ?_))
   | exact ih0 _ _ _ _
   | exact ih1 _ _ _ _
   | exact LeO.none _
   | refine LeO.ite ?_ ?_
   | refine LeO.bind ?_ (fun _ => ?_)
  ·intro y0 y1 y2 y3
   unfold carillonlaw14_CommandWords.l0
   repeat' first
   | (with_reducible exact ih0 _ _ _ _)
   | (with_reducible exact ih1 _ _ _ _)
   | (with_reducible exact LeO.refl _)
   | (with_reducible exact LeO.none _)
   | (with_reducible refine LeO.ite ?_ ?_)
   | (with_reducible refine LeO.bind ?_ (fun _ => ?_))
   | exact ih0 _ _ _ _
   | exact ih1 _ _ _ _
   | exact LeO.none _
   | refine LeO.ite ?_ ?_
   | refine LeO.bind ?_ (fun _ => ?_)
theorem carillonlaw14_CommandWords.mono : ∀ a0 a1 k, LeO (carillonlaw14_CommandWords.f k a0 a1) (carillonlaw14_CommandWords.f (k + 1) a0 a1) := by
 intro a0 a1 k
 obtain ⟨ih0, ih1⟩ := carillonlaw14_CommandWords.mono_l k
 unfold carillonlaw14_CommandWords.f
 repeat' first
   | (with_reducible exact ih0 _ _ _ _)
   | (with_reducible exact ih1 _ _ _ _)
   | (with_reducible exact LeO.refl _)
   | (with_reducible exact LeO.none _)
   | (with_reducible refine LeO.ite ?_ ?_)
   | (with_reducible refine LeO.bind ?_ (fun _ => ?_))
   | exact ih0 _ _ _ _
   | exact ih1 _ _ _ _
   | exact LeO.none _
   | refine LeO.ite ?_ ?_
   | refine LeO.bind ?_ (fun _ => ?_)
set_option maxHeartbeats 8000000 in
set_option maxRecDepth 100000 in
theorem carillonlaw14_CommandWords.calls (k : Nat) (a0 : ByteArray) (a1 : ByteArray) (r : Bool) (w : World) (hr_ : Aside0 (r = true)) (HT_ : TabOk w) (h : carillonlaw14_CommandWords.f k a0 a1 = some r) :
  Calls Tryd.prog 9 #[.string a0, .string a1] w fun e w' => e = .returned (.bool r) ∧ Below w.heap.size w w' := by
 have HT := Aside0.mk HT_
 clear HT_
 have HB := Aside0.mk (Below.refl w.heap.size w)
 have H : ((carillonlaw14_examples.f).bind fun t761 => ((command_Word.f a0).bind fun t762 => ((command_Word.f a1).bind fun t763 => (if a0.size + a1.size ≤ 9223372036854775807 then ((command_Word.f (a0 ++ a1)).bind fun t764 => (if t762 = true then (if t763 = true then (if (t764 != (decide ((wrap64 ((a0.size : Int) + (a1.size : Int))) ≤ 20))) = true then (carillonlaw14_CommandWords.j0 k a0 t761 t762 true) else (if t764 = true then (if (a0.size : Int) > 0 then (if (a1.size : Int) > 0 then (carillonlaw14_CommandWords.j0 k a0 t761 t762 (!t763)) else (carillonlaw14_CommandWords.j0 k a0 t761 t762 false)) else (if (a1.size : Int) > 0 then (carillonlaw14_CommandWords.j0 k a0 t761 t762 (!t763)) else (carillonlaw14_CommandWords.j0 k a0 t761 t762 false))) else (carillonlaw14_CommandWords.j0 k a0 t761 t762 false))) else (if t764 = true then (if (a0.size : Int) > 0 then (if (a1.size : Int) > 0 then (carillonlaw14_CommandWords.j0 k a0 t761 t762 (!t763)) else (carillonlaw14_CommandWords.j0 k a0 t761 t762 false)) else (if (a1.size : Int) > 0 then (carillonlaw14_CommandWords.j0 k a0 t761 t762 (!t763)) else (carillonlaw14_CommandWords.j0 k a0 t761 t762 false))) else (carillonlaw14_CommandWords.j0 k a0 t761 t762 false))) else (if t764 = true then (if (a0.size : Int) > 0 then (carillonlaw14_CommandWords.j0 k a0 t761 t762 true) else (if (a1.size : Int) > 0 then (carillonlaw14_CommandWords.j0 k a0 t761 t762 (!t763)) else (carillonlaw14_CommandWords.j0 k a0 t761 t762 false))) else (carillonlaw14_CommandWords.j0 k a0 t761 t762 false)))) else (none))))) = some r := h
 clear h
 replace H := Option.bind_eq_some_iff.mp H
 obtain ⟨t761, A30, H⟩ := H
 replace H : ((command_Word.f a0).bind fun t762 => ((command_Word.f a1).bind fun t763 => (if a0.size + a1.size ≤ 9223372036854775807 then ((command_Word.f (a0 ++ a1)).bind fun t764 => (if t762 = true then (if t763 = true then (if (t764 != (decide ((wrap64 ((a0.size : Int) + (a1.size : Int))) ≤ 20))) = true then (carillonlaw14_CommandWords.j0 k a0 t761 t762 true) else (if t764 = true then (if (a0.size : Int) > 0 then (if (a1.size : Int) > 0 then (carillonlaw14_CommandWords.j0 k a0 t761 t762 (!t763)) else (carillonlaw14_CommandWords.j0 k a0 t761 t762 false)) else (if (a1.size : Int) > 0 then (carillonlaw14_CommandWords.j0 k a0 t761 t762 (!t763)) else (carillonlaw14_CommandWords.j0 k a0 t761 t762 false))) else (carillonlaw14_CommandWords.j0 k a0 t761 t762 false))) else (if t764 = true then (if (a0.size : Int) > 0 then (if (a1.size : Int) > 0 then (carillonlaw14_CommandWords.j0 k a0 t761 t762 (!t763)) else (carillonlaw14_CommandWords.j0 k a0 t761 t762 false)) else (if (a1.size : Int) > 0 then (carillonlaw14_CommandWords.j0 k a0 t761 t762 (!t763)) else (carillonlaw14_CommandWords.j0 k a0 t761 t762 false))) else (carillonlaw14_CommandWords.j0 k a0 t761 t762 false))) else (if t764 = true then (if (a0.size : Int) > 0 then (carillonlaw14_CommandWords.j0 k a0 t761 t762 true) else (if (a1.size : Int) > 0 then (carillonlaw14_CommandWords.j0 k a0 t761 t762 (!t763)) else (carillonlaw14_CommandWords.j0 k a0 t761 t762 false))) else (carillonlaw14_CommandWords.j0 k a0 t761 t762 false)))) else (none)))) = some r := H
 have A3 := Aside0.mk A30
 clear A30
 replace H := Option.bind_eq_some_iff.mp H
 obtain ⟨t762, A40, H⟩ := H
 replace H : ((command_Word.f a1).bind fun t763 => (if a0.size + a1.size ≤ 9223372036854775807 then ((command_Word.f (a0 ++ a1)).bind fun t764 => (if t762 = true then (if t763 = true then (if (t764 != (decide ((wrap64 ((a0.size : Int) + (a1.size : Int))) ≤ 20))) = true then (carillonlaw14_CommandWords.j0 k a0 t761 t762 true) else (if t764 = true then (if (a0.size : Int) > 0 then (if (a1.size : Int) > 0 then (carillonlaw14_CommandWords.j0 k a0 t761 t762 (!t763)) else (carillonlaw14_CommandWords.j0 k a0 t761 t762 false)) else (if (a1.size : Int) > 0 then (carillonlaw14_CommandWords.j0 k a0 t761 t762 (!t763)) else (carillonlaw14_CommandWords.j0 k a0 t761 t762 false))) else (carillonlaw14_CommandWords.j0 k a0 t761 t762 false))) else (if t764 = true then (if (a0.size : Int) > 0 then (if (a1.size : Int) > 0 then (carillonlaw14_CommandWords.j0 k a0 t761 t762 (!t763)) else (carillonlaw14_CommandWords.j0 k a0 t761 t762 false)) else (if (a1.size : Int) > 0 then (carillonlaw14_CommandWords.j0 k a0 t761 t762 (!t763)) else (carillonlaw14_CommandWords.j0 k a0 t761 t762 false))) else (carillonlaw14_CommandWords.j0 k a0 t761 t762 false))) else (if t764 = true then (if (a0.size : Int) > 0 then (carillonlaw14_CommandWords.j0 k a0 t761 t762 true) else (if (a1.size : Int) > 0 then (carillonlaw14_CommandWords.j0 k a0 t761 t762 (!t763)) else (carillonlaw14_CommandWords.j0 k a0 t761 t762 false))) else (carillonlaw14_CommandWords.j0 k a0 t761 t762 false)))) else (none))) = some r := H
 have A4 := Aside0.mk A40
 clear A40
 replace H := Option.bind_eq_some_iff.mp H
 obtain ⟨t763, A50, H⟩ := H
 replace H : (if a0.size + a1.size ≤ 9223372036854775807 then ((command_Word.f (a0 ++ a1)).bind fun t764 => (if t762 = true then (if t763 = true then (if (t764 != (decide ((wrap64 ((a0.size : Int) + (a1.size : Int))) ≤ 20))) = true then (carillonlaw14_CommandWords.j0 k a0 t761 t762 true) else (if t764 = true then (if (a0.size : Int) > 0 then (if (a1.size : Int) > 0 then (carillonlaw14_CommandWords.j0 k a0 t761 t762 (!t763)) else (carillonlaw14_CommandWords.j0 k a0 t761 t762 false)) else (if (a1.size : Int) > 0 then (carillonlaw14_CommandWords.j0 k a0 t761 t762 (!t763)) else (carillonlaw14_CommandWords.j0 k a0 t761 t762 false))) else (carillonlaw14_CommandWords.j0 k a0 t761 t762 false))) else (if t764 = true then (if (a0.size : Int) > 0 then (if (a1.size : Int) > 0 then (carillonlaw14_CommandWords.j0 k a0 t761 t762 (!t763)) else (carillonlaw14_CommandWords.j0 k a0 t761 t762 false)) else (if (a1.size : Int) > 0 then (carillonlaw14_CommandWords.j0 k a0 t761 t762 (!t763)) else (carillonlaw14_CommandWords.j0 k a0 t761 t762 false))) else (carillonlaw14_CommandWords.j0 k a0 t761 t762 false))) else (if t764 = true then (if (a0.size : Int) > 0 then (carillonlaw14_CommandWords.j0 k a0 t761 t762 true) else (if (a1.size : Int) > 0 then (carillonlaw14_CommandWords.j0 k a0 t761 t762 (!t763)) else (carillonlaw14_CommandWords.j0 k a0 t761 t762 false))) else (carillonlaw14_CommandWords.j0 k a0 t761 t762 false)))) else (none)) = some r := H
 have A5 := Aside0.mk A50
 clear A50
 by_cases c6 : a0.size + a1.size ≤ 9223372036854775807; rotate_left
 ·rw [if_neg c6] at H
  exact absurd H (by simp)
 rw [if_pos c6] at H
 have aw := eq_true c6
 have ax : decide (a0.size + a1.size ≤ 9223372036854775807) = true := decide_eq_true c6
 try have ay : (9223372036854775807 < a0.size + a1.size) = False := eq_false (Nat.not_lt.2 c6)
 replace H := Option.bind_eq_some_iff.mp H
 obtain ⟨t764, A70, H⟩ := H
 replace H : (if t762 = true then (if t763 = true then (if (t764 != (decide ((wrap64 ((a0.size : Int) + (a1.size : Int))) ≤ 20))) = true then (carillonlaw14_CommandWords.j0 k a0 t761 t762 true) else (if t764 = true then (if (a0.size : Int) > 0 then (if (a1.size : Int) > 0 then (carillonlaw14_CommandWords.j0 k a0 t761 t762 (!t763)) else (carillonlaw14_CommandWords.j0 k a0 t761 t762 false)) else (if (a1.size : Int) > 0 then (carillonlaw14_CommandWords.j0 k a0 t761 t762 (!t763)) else (carillonlaw14_CommandWords.j0 k a0 t761 t762 false))) else (carillonlaw14_CommandWords.j0 k a0 t761 t762 false))) else (if t764 = true then (if (a0.size : Int) > 0 then (if (a1.size : Int) > 0 then (carillonlaw14_CommandWords.j0 k a0 t761 t762 (!t763)) else (carillonlaw14_CommandWords.j0 k a0 t761 t762 false)) else (if (a1.size : Int) > 0 then (carillonlaw14_CommandWords.j0 k a0 t761 t762 (!t763)) else (carillonlaw14_CommandWords.j0 k a0 t761 t762 false))) else (carillonlaw14_CommandWords.j0 k a0 t761 t762 false))) else (if t764 = true then (if (a0.size : Int) > 0 then (carillonlaw14_CommandWords.j0 k a0 t761 t762 true) else (if (a1.size : Int) > 0 then (carillonlaw14_CommandWords.j0 k a0 t761 t762 (!t763)) else (carillonlaw14_CommandWords.j0 k a0 t761 t762 false))) else (carillonlaw14_CommandWords.j0 k a0 t761 t762 false))) = some r := H
 have A7 := Aside0.mk A70
 clear A70
 have HC8 := Aside0.mk H
 clear H
 go_enter Tryd.func9, Tryd.ntmps9
 go_upto_region 5 with (first | ((with_reducible refine gate_callee (f := 11) rfl ?_); refine goesL_ (some 10) rfl rfl Tryd.func11 (by kernel_rfl) rfl #[] rfl am ?_; (with_reducible refine (carillonlaw14_examples.calls  t761 _ tbk A3.out).mono ?_); rintro e w9 ⟨rfl, hb⟩; refine ⟨_, rfl, ?_⟩; have n0_ := Aside0.mk (below_step bw hb); clear HB; have HB := n0_; clear n0_; (try clear hb)) | ((with_reducible refine gate_callee (f := 18) rfl ?_); refine goesL_ (some 12) rfl rfl Tryd.func18 (by kernel_rfl) rfl #[.string a0] rfl am ?_; (with_reducible refine (command_Word.calls a0 t762 _ A4.out).mono ?_); rintro e w10 ⟨rfl, hb⟩; refine ⟨_, rfl, ?_⟩; have n0_ := Aside0.mk (below_step bw hb); clear HB; have HB := n0_; clear n0_; (try clear hb)) | ((with_reducible refine gate_callee (f := 18) rfl ?_); refine goesL_ (some 14) rfl rfl Tryd.func18 (by kernel_rfl) rfl #[.string a1] rfl am ?_; (with_reducible refine (command_Word.calls a1 t763 _ A5.out).mono ?_); rintro e w11 ⟨rfl, hb⟩; refine ⟨_, rfl, ?_⟩; have n0_ := Aside0.mk (below_step bw hb); clear HB; have HB := n0_; clear n0_; (try clear hb)) | ((with_reducible refine gate_callee (f := 18) rfl ?_); refine goesL_ (some 18) rfl rfl Tryd.func18 (by kernel_rfl) rfl #[.string (a0 ++ a1)] rfl am ?_; (with_reducible refine (command_Word.calls (a0 ++ a1) t764 _ A7.out).mono ?_); rintro e w12 ⟨rfl, hb⟩; refine ⟨_, rfl, ?_⟩; have n0_ := Aside0.mk (below_step bw hb); clear HB; have HB := n0_; clear n0_; (try clear hb)))
 (try simp only [Act.put, sl1, sl2, sl3])
 go_cut [53] (fun v53 wc => ∃ (kq : Nat) (x53_7 : Bool), v53 = .bool x53_7 ∧ Aside0 (carillonlaw14_CommandWords.j0 kq a0 t761 t762 x53_7 = some r) ∧ Aside0 (kq ≤ k) ∧ Aside0 (Below w.heap.size w wc))
 case first =>
  have H := HC8.out
  clear HC8
  by_cases c13 : t762 = true; rotate_left
  ·replace c13 := Bool.eq_false_iff.mpr c13
   subst c13
   have H1 : (if t764 = true then (if (a0.size : Int) > 0 then (carillonlaw14_CommandWords.j0 k a0 t761 false true) else (if (a1.size : Int) > 0 then (carillonlaw14_CommandWords.j0 k a0 t761 false (!t763)) else (carillonlaw14_CommandWords.j0 k a0 t761 false false))) else (carillonlaw14_CommandWords.j0 k a0 t761 false false)) = some r := by rw [if_neg (show ¬ (false = true) by decide)] at H; exact H
   clear H
   have H := H1
   clear H1
   by_cases c24 : t764 = true; rotate_left
   ·replace c24 := Bool.eq_false_iff.mpr c24
    subst c24
    have H1 : (carillonlaw14_CommandWords.j0 k a0 t761 false false) = some r := by rw [if_neg (show ¬ (false = true) by decide)] at H; exact H
    clear H
    have H := H1
    clear H1
    have H' := Aside0.mk H
    clear H
    go_wp2
    go_meet
    case rel => exact ⟨_, (false), (by first | rfl | (simp; done) | (simp [*]; done)), H', ⟨by first | omega | exact Nat.le_refl _⟩, ⟨bw⟩⟩
   subst c24
   have H1 : (if (a0.size : Int) > 0 then (carillonlaw14_CommandWords.j0 k a0 t761 false true) else (if (a1.size : Int) > 0 then (carillonlaw14_CommandWords.j0 k a0 t761 false (!t763)) else (carillonlaw14_CommandWords.j0 k a0 t761 false false))) = some r := by rw [if_pos rfl] at H; exact H
   clear H
   have H := H1
   clear H1
   by_cases c25 : (a0.size : Int) > 0
   ·rw [if_pos c25] at H
    have aq : decide (0 < (a0.size : Int)) = true := decide_eq_true c25
    have ar : decide (0 < a0.size) = true := decide_eq_true (by omega)
    clear c25
    have H' := Aside0.mk H
    clear H
    go_wp2
    go_meet
    case rel => exact ⟨_, (true), (by first | rfl | (simp; done) | (simp [*]; done)), H', ⟨by first | omega | exact Nat.le_refl _⟩, ⟨bw⟩⟩
   rw [if_neg c25] at H
   have aq : decide (0 < (a0.size : Int)) = false := decide_eq_false c25
   have ar : decide (0 < a0.size) = false := decide_eq_false (by omega)
   clear c25
   by_cases c26 : (a1.size : Int) > 0; rotate_left
   ·rw [if_neg c26] at H
    have au : decide (0 < (a1.size : Int)) = false := decide_eq_false c26
    have av : decide (0 < a1.size) = false := decide_eq_false (by omega)
    clear c26
    have H' := Aside0.mk H
    clear H
    go_wp2
    go_meet
    case rel => exact ⟨_, (false), (by first | rfl | (simp; done) | (simp [*]; done)), H', ⟨by first | omega | exact Nat.le_refl _⟩, ⟨bw⟩⟩
   rw [if_pos c26] at H
   have au : decide (0 < (a1.size : Int)) = true := decide_eq_true c26
   have av : decide (0 < a1.size) = true := decide_eq_true (by omega)
   clear c26
   have H' := Aside0.mk H
   clear H
   go_wp2
   go_meet
   case rel => exact ⟨_, (!t763), (by first | rfl | (simp; done) | (simp [*]; done)), H', ⟨by first | omega | exact Nat.le_refl _⟩, ⟨bw⟩⟩
  subst c13
  have H1 : (if t763 = true then (if (t764 != (decide ((wrap64 ((a0.size : Int) + (a1.size : Int))) ≤ 20))) = true then (carillonlaw14_CommandWords.j0 k a0 t761 true true) else (if t764 = true then (if (a0.size : Int) > 0 then (if (a1.size : Int) > 0 then (carillonlaw14_CommandWords.j0 k a0 t761 true (!t763)) else (carillonlaw14_CommandWords.j0 k a0 t761 true false)) else (if (a1.size : Int) > 0 then (carillonlaw14_CommandWords.j0 k a0 t761 true (!t763)) else (carillonlaw14_CommandWords.j0 k a0 t761 true false))) else (carillonlaw14_CommandWords.j0 k a0 t761 true false))) else (if t764 = true then (if (a0.size : Int) > 0 then (if (a1.size : Int) > 0 then (carillonlaw14_CommandWords.j0 k a0 t761 true (!t763)) else (carillonlaw14_CommandWords.j0 k a0 t761 true false)) else (if (a1.size : Int) > 0 then (carillonlaw14_CommandWords.j0 k a0 t761 true (!t763)) else (carillonlaw14_CommandWords.j0 k a0 t761 true false))) else (carillonlaw14_CommandWords.j0 k a0 t761 true false))) = some r := by rw [if_pos rfl] at H; exact H
  clear H
  have H := H1
  clear H1
  by_cases c14 : t763 = true; rotate_left
  ·replace c14 := Bool.eq_false_iff.mpr c14
   subst c14
   have H1 : (if t764 = true then (if (a0.size : Int) > 0 then (if (a1.size : Int) > 0 then (carillonlaw14_CommandWords.j0 k a0 t761 true (!false)) else (carillonlaw14_CommandWords.j0 k a0 t761 true false)) else (if (a1.size : Int) > 0 then (carillonlaw14_CommandWords.j0 k a0 t761 true (!false)) else (carillonlaw14_CommandWords.j0 k a0 t761 true false))) else (carillonlaw14_CommandWords.j0 k a0 t761 true false)) = some r := by rw [if_neg (show ¬ (false = true) by decide)] at H; exact H
   clear H
   have H := H1
   clear H1
   by_cases c20 : t764 = true; rotate_left
   ·replace c20 := Bool.eq_false_iff.mpr c20
    subst c20
    have H1 : (carillonlaw14_CommandWords.j0 k a0 t761 true false) = some r := by rw [if_neg (show ¬ (false = true) by decide)] at H; exact H
    clear H
    have H := H1
    clear H1
    have H' := Aside0.mk H
    clear H
    go_wp2
    go_meet
    case rel => exact ⟨_, (false), (by first | rfl | (simp; done) | (simp [*]; done)), H', ⟨by first | omega | exact Nat.le_refl _⟩, ⟨bw⟩⟩
   subst c20
   have H1 : (if (a0.size : Int) > 0 then (if (a1.size : Int) > 0 then (carillonlaw14_CommandWords.j0 k a0 t761 true (!false)) else (carillonlaw14_CommandWords.j0 k a0 t761 true false)) else (if (a1.size : Int) > 0 then (carillonlaw14_CommandWords.j0 k a0 t761 true (!false)) else (carillonlaw14_CommandWords.j0 k a0 t761 true false))) = some r := by rw [if_pos rfl] at H; exact H
   clear H
   have H := H1
   clear H1
   by_cases c21 : (a0.size : Int) > 0; rotate_left
   ·rw [if_neg c21] at H
    have aj : decide (0 < (a0.size : Int)) = false := decide_eq_false c21
    have ak : decide (0 < a0.size) = false := decide_eq_false (by omega)
    clear c21
    by_cases c23 : (a1.size : Int) > 0; rotate_left
    ·rw [if_neg c23] at H
     have ao : decide (0 < (a1.size : Int)) = false := decide_eq_false c23
     have ap : decide (0 < a1.size) = false := decide_eq_false (by omega)
     clear c23
     have H' := Aside0.mk H
     clear H
     go_wp2
     go_meet
     case rel => exact ⟨_, (false), (by first | rfl | (simp; done) | (simp [*]; done)), H', ⟨by first | omega | exact Nat.le_refl _⟩, ⟨bw⟩⟩
    rw [if_pos c23] at H
    have ao : decide (0 < (a1.size : Int)) = true := decide_eq_true c23
    have ap : decide (0 < a1.size) = true := decide_eq_true (by omega)
    clear c23
    have H' := Aside0.mk H
    clear H
    go_wp2
    go_meet
    case rel => exact ⟨_, (!false), (by first | rfl | (simp; done) | (simp [*]; done)), H', ⟨by first | omega | exact Nat.le_refl _⟩, ⟨bw⟩⟩
   rw [if_pos c21] at H
   have aj : decide (0 < (a0.size : Int)) = true := decide_eq_true c21
   have ak : decide (0 < a0.size) = true := decide_eq_true (by omega)
   clear c21
   by_cases c22 : (a1.size : Int) > 0; rotate_left
   ·rw [if_neg c22] at H
    have al : decide (0 < (a1.size : Int)) = false := decide_eq_false c22
    have an : decide (0 < a1.size) = false := decide_eq_false (by omega)
    clear c22
    have H' := Aside0.mk H
    clear H
    go_wp2
    go_meet
    case rel => exact ⟨_, (false), (by first | rfl | (simp; done) | (simp [*]; done)), H', ⟨by first | omega | exact Nat.le_refl _⟩, ⟨bw⟩⟩
   rw [if_pos c22] at H
   have al : decide (0 < (a1.size : Int)) = true := decide_eq_true c22
   have an : decide (0 < a1.size) = true := decide_eq_true (by omega)
   clear c22
   have H' := Aside0.mk H
   clear H
   go_wp2
   go_meet
   case rel => exact ⟨_, (!false), (by first | rfl | (simp; done) | (simp [*]; done)), H', ⟨by first | omega | exact Nat.le_refl _⟩, ⟨bw⟩⟩
  subst c14
  have H1 : (if (t764 != (decide ((wrap64 ((a0.size : Int) + (a1.size : Int))) ≤ 20))) = true then (carillonlaw14_CommandWords.j0 k a0 t761 true true) else (if t764 = true then (if (a0.size : Int) > 0 then (if (a1.size : Int) > 0 then (carillonlaw14_CommandWords.j0 k a0 t761 true (!true)) else (carillonlaw14_CommandWords.j0 k a0 t761 true false)) else (if (a1.size : Int) > 0 then (carillonlaw14_CommandWords.j0 k a0 t761 true (!true)) else (carillonlaw14_CommandWords.j0 k a0 t761 true false))) else (carillonlaw14_CommandWords.j0 k a0 t761 true false))) = some r := by rw [if_pos rfl] at H; exact H
  clear H
  have H := H1
  clear H1
  by_cases c15 : (t764 != (decide ((wrap64 ((a0.size : Int) + (a1.size : Int))) ≤ 20))) = true
  ·rw [if_pos c15] at H
   have hw_ : wrap64 ((a0.size : Int) + (a1.size : Int)) = (a0.size : Int) + (a1.size : Int) := by (have h9_ : a0.size + a1.size ≤ 9223372036854775807 := by first | assumption | exact of_decide_eq_true (by assumption)); unfold wrap64; omega
   rw [hw_] at c15
   clear hw_
   obtain ⟨z_, hz_⟩ : ∃ z_ : Bool, decide ((a0.size : Int) + (a1.size : Int) ≤ 20) = z_ := ⟨_, rfl⟩
   have hy_ : decide (a0.size + a1.size ≤ 20) = z_ := by rw [← hz_, decide_eq_decide]; omega
   rw [hz_] at c15
   have aa : (t764 != z_) = true := c15
   (try (have ab : decide (t764 = z_) = false := by simpa using c15))
   (try (have ac : (t764 == z_) = false := by simpa using c15))
   (try (have c15b3 : ¬ (t764 = z_) := by simpa using c15))
   clear c15
   (first | rw [aa] | (simp only [i64_w, i32_w]; rw [aa]) | skip)
   have H' := Aside0.mk H
   clear H
   go_wp2
   go_meet
   case rel => exact ⟨_, (true), (by first | rfl | (simp; done) | (simp [*]; done)), H', ⟨by first | omega | exact Nat.le_refl _⟩, ⟨bw⟩⟩
  rw [if_neg c15] at H
  have hw_ : wrap64 ((a0.size : Int) + (a1.size : Int)) = (a0.size : Int) + (a1.size : Int) := by (have h9_ : a0.size + a1.size ≤ 9223372036854775807 := by first | assumption | exact of_decide_eq_true (by assumption)); unfold wrap64; omega
  rw [hw_] at c15
  clear hw_
  obtain ⟨z_, hz_⟩ : ∃ z_ : Bool, decide ((a0.size : Int) + (a1.size : Int) ≤ 20) = z_ := ⟨_, rfl⟩
  have hy_ : decide (a0.size + a1.size ≤ 20) = z_ := by rw [← hz_, decide_eq_decide]; omega
  rw [hz_] at c15
  have aa : (t764 != z_) = false := by simpa using c15
  (try (have ab : decide (t764 = z_) = true := by simpa using c15))
  (try (have ac : (t764 == z_) = true := by simpa using c15))
  clear c15
  (first | rw [aa] | (simp only [i64_w, i32_w]; rw [aa]) | skip)
  by_cases c16 : t764 = true; rotate_left
  ·replace c16 := Bool.eq_false_iff.mpr c16
   subst c16
   have H1 : (carillonlaw14_CommandWords.j0 k a0 t761 true false) = some r := by rw [if_neg (show ¬ (false = true) by decide)] at H; exact H
   clear H
   have H := H1
   clear H1
   have H' := Aside0.mk H
   clear H
   go_wp2
   go_meet
   case rel => exact ⟨_, (false), (by first | rfl | (simp; done) | (simp [*]; done)), H', ⟨by first | omega | exact Nat.le_refl _⟩, ⟨bw⟩⟩
  subst c16
  have H1 : (if (a0.size : Int) > 0 then (if (a1.size : Int) > 0 then (carillonlaw14_CommandWords.j0 k a0 t761 true (!true)) else (carillonlaw14_CommandWords.j0 k a0 t761 true false)) else (if (a1.size : Int) > 0 then (carillonlaw14_CommandWords.j0 k a0 t761 true (!true)) else (carillonlaw14_CommandWords.j0 k a0 t761 true false))) = some r := by rw [if_pos rfl] at H; exact H
  clear H
  have H := H1
  clear H1
  by_cases c17 : (a0.size : Int) > 0; rotate_left
  ·rw [if_neg c17] at H
   have ad : decide (0 < (a0.size : Int)) = false := decide_eq_false c17
   have ae : decide (0 < a0.size) = false := decide_eq_false (by omega)
   clear c17
   by_cases c19 : (a1.size : Int) > 0; rotate_left
   ·rw [if_neg c19] at H
    have ah : decide (0 < (a1.size : Int)) = false := decide_eq_false c19
    have ai : decide (0 < a1.size) = false := decide_eq_false (by omega)
    clear c19
    have H' := Aside0.mk H
    clear H
    go_wp2
    go_meet
    case rel => exact ⟨_, (false), (by first | rfl | (simp; done) | (simp [*]; done)), H', ⟨by first | omega | exact Nat.le_refl _⟩, ⟨bw⟩⟩
   rw [if_pos c19] at H
   have ah : decide (0 < (a1.size : Int)) = true := decide_eq_true c19
   have ai : decide (0 < a1.size) = true := decide_eq_true (by omega)
   clear c19
   have H' := Aside0.mk H
   clear H
   go_wp2
   go_meet
   case rel => exact ⟨_, (!true), (by first | rfl | (simp; done) | (simp [*]; done)), H', ⟨by first | omega | exact Nat.le_refl _⟩, ⟨bw⟩⟩
  rw [if_pos c17] at H
  have ad : decide (0 < (a0.size : Int)) = true := decide_eq_true c17
  have ae : decide (0 < a0.size) = true := decide_eq_true (by omega)
  clear c17
  by_cases c18 : (a1.size : Int) > 0; rotate_left
  ·rw [if_neg c18] at H
   have af : decide (0 < (a1.size : Int)) = false := decide_eq_false c18
   have ag : decide (0 < a1.size) = false := decide_eq_false (by omega)
   clear c18
   have H' := Aside0.mk H
   clear H
   go_wp2
   go_meet
   case rel => exact ⟨_, (false), (by first | rfl | (simp; done) | (simp [*]; done)), H', ⟨by first | omega | exact Nat.le_refl _⟩, ⟨bw⟩⟩
  rw [if_pos c18] at H
  have af : decide (0 < (a1.size : Int)) = true := decide_eq_true c18
  have ag : decide (0 < a1.size) = true := decide_eq_true (by omega)
  clear c18
  have H' := Aside0.mk H
  clear H
  go_wp2
  go_meet
  case rel => exact ⟨_, (!true), (by first | rfl | (simp; done) | (simp [*]; done)), H', ⟨by first | omega | exact Nat.le_refl _⟩, ⟨bw⟩⟩
 case rest =>
  clear HC8
  try clear c1
  try clear c2
  try clear p2
  try clear c6
  try clear aw
  try clear ax
  try clear ay
  try clear p6
  try clear c9
  try clear c11
  try clear c13
  try clear c14
  try clear c15
  try clear aa
  try clear ab
  try clear ac
  try clear c16
  try clear c17
  try clear ad
  try clear ae
  try clear c18
  try clear af
  try clear ag
  try clear c19
  try clear ah
  try clear ai
  try clear c20
  try clear c21
  try clear aj
  try clear ak
  try clear c22
  try clear al
  try clear an
  try clear c23
  try clear ao
  try clear ap
  try clear c24
  try clear c25
  try clear aq
  try clear ar
  try clear c26
  try clear au
  try clear av
  obtain ⟨kq, x53_7, rfl, HA, HJ7, HB⟩ := hcut
  cases kq with
  | zero => exact absurd HA.out (by simp [carillonlaw14_CommandWords.j0])
  | succ kj7 =>
   have H := HA.out
   clear HA
   simp only [carillonlaw14_CommandWords.j0] at H
   by_cases c27 : x53_7 = true
   ·subst c27
    have H1 : (some false) = some r := by rw [if_pos rfl] at H; exact H
    clear H
    have H := H1
    clear H1
    exact absurd ((Option.some.inj H).trans hr_.out) (by decide)
   replace c27 := Bool.eq_false_iff.mpr c27
   subst c27
   have H1 : (carillonlaw14_CommandWords.l0 kj7 a0 t761 t762 0) = some r := by rw [if_neg (show ¬ (false = true) by decide)] at H; exact H
   clear H
   have H := H1
   clear H1
   have H' := Aside0.mk H
   clear H
   go_wp2
   go_loopg [9] kj7 (fun kq v9 w' => ∃ (x9_2 : Int), v9 = .int .i64 x9_2 ∧ Aside0 (carillonlaw14_CommandWords.l0 kq a0 t761 t762 x9_2 = some r) ∧ Aside0 (kq ≤ kj7) ∧ Aside0 (Below w.heap.size w w'))
   case atStart => exact ⟨(0), (by first | rfl | (simp; done) | (simp [*]; done)), H', ⟨Nat.le_refl _⟩, ⟨bw⟩⟩
   case round =>
    clear H'
    try clear c1
    try clear c2
    try clear p2
    try clear c6
    try clear aw
    try clear ax
    try clear ay
    try clear p6
    try clear c9
    try clear c11
    try clear c13
    try clear c14
    try clear c15
    try clear aa
    try clear ab
    try clear ac
    try clear c16
    try clear c17
    try clear ad
    try clear ae
    try clear c18
    try clear af
    try clear ag
    try clear c19
    try clear ah
    try clear ai
    try clear c20
    try clear c21
    try clear aj
    try clear ak
    try clear c22
    try clear al
    try clear an
    try clear c23
    try clear ao
    try clear ap
    try clear c24
    try clear c25
    try clear aq
    try clear ar
    try clear c26
    try clear au
    try clear av
    try clear c27
    try clear p2
    try clear p6
    obtain ⟨x9_2, rfl, HA, HK2, HB⟩ := hrel
    cases gk with
    | zero => exact absurd HA.out (by simp [carillonlaw14_CommandWords.l0])
    | succ k2 =>
     have H := HA.out
     clear HA
     simp only [carillonlaw14_CommandWords.l0] at H
     by_cases c28 : x9_2 < (a0.size : Int); rotate_left
     ·rw [if_neg c28] at H
      have c28b0 : decide (x9_2 < (a0.size : Int)) = false := decide_eq_false c28
      clear c28
      by_cases c43 : t761 = true; rotate_left
      ·replace c43 := Bool.eq_false_iff.mpr c43
       subst c43
       have H1 : (some false) = some r := by rw [if_neg (show ¬ (false = true) by decide)] at H; exact H
       clear H
       have H := H1
       clear H1
       exact absurd ((Option.some.inj H).trans hr_.out) (by decide)
      subst c43
      have H1 : (if t762 = true then (some (decide ((a0.size : Int) ≥ 1))) else (some true)) = some r := by rw [if_pos rfl] at H; exact H
      clear H
      have H := H1
      clear H1
      by_cases c44 : t762 = true
      ·subst c44
       have H1 : (some (decide ((a0.size : Int) ≥ 1))) = some r := by rw [if_pos rfl] at H; exact H
       clear H
       have H := H1
       clear H1
       obtain rfl := Option.some.inj H
       go_wp2
       go_ret
       exact ⟨er, bw⟩
      replace c44 := Bool.eq_false_iff.mpr c44
      subst c44
      have H1 : (some true) = some r := by rw [if_neg (show ¬ (false = true) by decide)] at H; exact H
      clear H
      have H := H1
      clear H1
      obtain rfl := Option.some.inj H
      go_wp2
      go_ret
      exact ⟨er, bw⟩
     rw [if_pos c28] at H
     have c28b0 : decide (x9_2 < (a0.size : Int)) = true := decide_eq_true c28
     clear c28
     by_cases c29 : t762 = true; rotate_left
     ·replace c29 := Bool.eq_false_iff.mpr c29
      subst c29
      have H1 : (carillonlaw14_CommandWords.l0 k2 a0 t761 false (wrap64 (x9_2 + 1))) = some r := by rw [if_neg (show ¬ (false = true) by decide)] at H; exact H
      clear H
      have H := H1
      clear H1
      have H' := Aside0.mk H
      clear H
      go_wp2
      go_roundg k2
      case measure => have := HJ7.out; have := HK2.out; omega
      case rel => exact ⟨(wrap64 (x9_2 + 1)), (by first | rfl | (simp; done) | (simp [*]; done)), H', ⟨by have := HJ7.out; have := HK2.out; omega⟩, ⟨bw⟩⟩
     subst c29
     have H1 : (if 0 ≤ x9_2 then (if (bt a0 x9_2) ≥ 97 then (if (bt a0 x9_2) ≤ 122 then (carillonlaw14_CommandWords.l0 k2 a0 t761 true (wrap64 (x9_2 + 1))) else (if (bt a0 x9_2) ≥ 48 then (if ((bt a0 x9_2) ≤ 57) then (carillonlaw14_CommandWords.l0 k2 a0 t761 true (wrap64 (x9_2 + 1))) else (some false)) else (some false))) else (if (bt a0 x9_2) ≥ 48 then (if ((bt a0 x9_2) ≤ 57) then (carillonlaw14_CommandWords.l0 k2 a0 t761 true (wrap64 (x9_2 + 1))) else (some false)) else (some false))) else (none)) = some r := by rw [if_pos rfl] at H; exact H
     clear H
     have H := H1
     clear H1
     by_cases c30 : 0 ≤ x9_2; rotate_left
     ·rw [if_neg c30] at H
      exact absurd H (by simp)
     rw [if_pos c30] at H
     have c30b0 : decide (0 ≤ x9_2) = true := decide_eq_true c30
     clear c30
     by_cases c32 : (bt a0 x9_2) ≥ 97; rotate_left
     ·rw [if_neg c32] at H
      have c32b0 : decide (97 ≤ (bt a0 x9_2)) = false := decide_eq_false c32
      clear c32
      by_cases c40 : (bt a0 x9_2) ≥ 48; rotate_left
      ·rw [if_neg c40] at H
       have c40b0 : decide (48 ≤ (bt a0 x9_2)) = false := decide_eq_false c40
       clear c40
       exact absurd ((Option.some.inj H).trans hr_.out) (by decide)
      rw [if_pos c40] at H
      have c40b0 : decide (48 ≤ (bt a0 x9_2)) = true := decide_eq_true c40
      clear c40
      by_cases c42 : ((bt a0 x9_2) ≤ 57); rotate_left
      ·rw [if_neg c42] at H
       have c42b0 : decide ((bt a0 x9_2) ≤ 57) = false := decide_eq_false c42
       clear c42
       exact absurd ((Option.some.inj H).trans hr_.out) (by decide)
      rw [if_pos c42] at H
      have c42b0 : decide ((bt a0 x9_2) ≤ 57) = true := decide_eq_true c42
      clear c42
      have H' := Aside0.mk H
      clear H
      have p31 : 0 ≤ (x9_2 : Int) := od
      have q31 : x9_2 < (a0.size : Int) := od
      have hx31 := bt_at a0 x9_2
      replace p31 := eq_true p31
      replace q31 := eq_true q31
      have p39 : 0 ≤ (x9_2 : Int) := od
      have q39 : x9_2 < (a0.size : Int) := od
      have hx39 := bt_at a0 x9_2
      replace p39 := eq_true p39
      replace q39 := eq_true q39
      have p41 : 0 ≤ (x9_2 : Int) := od
      have q41 : x9_2 < (a0.size : Int) := od
      have hx41 := bt_at a0 x9_2
      replace p41 := eq_true p41
      replace q41 := eq_true q41
      go_wp2
      go_roundg k2
      case measure => have := HJ7.out; have := HK2.out; omega
      case rel => exact ⟨(wrap64 (x9_2 + 1)), (by first | rfl | (simp; done) | (simp [*]; done)), H', ⟨by have := HJ7.out; have := HK2.out; omega⟩, ⟨bw⟩⟩
     rw [if_pos c32] at H
     have c32b0 : decide (97 ≤ (bt a0 x9_2)) = true := decide_eq_true c32
     clear c32
     by_cases c34 : (bt a0 x9_2) ≤ 122
     ·rw [if_pos c34] at H
      have c34b0 : decide ((bt a0 x9_2) ≤ 122) = true := decide_eq_true c34
      clear c34
      have H' := Aside0.mk H
      clear H
      have p31 : 0 ≤ (x9_2 : Int) := od
      have q31 : x9_2 < (a0.size : Int) := od
      have hx31 := bt_at a0 x9_2
      replace p31 := eq_true p31
      replace q31 := eq_true q31
      have p33 : 0 ≤ (x9_2 : Int) := od
      have q33 : x9_2 < (a0.size : Int) := od
      have hx33 := bt_at a0 x9_2
      replace p33 := eq_true p33
      replace q33 := eq_true q33
      go_wp2
      go_roundg k2
      case measure => have := HJ7.out; have := HK2.out; omega
      case rel => exact ⟨(wrap64 (x9_2 + 1)), (by first | rfl | (simp; done) | (simp [*]; done)), H', ⟨by have := HJ7.out; have := HK2.out; omega⟩, ⟨bw⟩⟩
     rw [if_neg c34] at H
     have c34b0 : decide ((bt a0 x9_2) ≤ 122) = false := decide_eq_false c34
     clear c34
     by_cases c36 : (bt a0 x9_2) ≥ 48; rotate_left
     ·rw [if_neg c36] at H
      have c36b0 : decide (48 ≤ (bt a0 x9_2)) = false := decide_eq_false c36
      clear c36
      exact absurd ((Option.some.inj H).trans hr_.out) (by decide)
     rw [if_pos c36] at H
     have c36b0 : decide (48 ≤ (bt a0 x9_2)) = true := decide_eq_true c36
     clear c36
     by_cases c38 : ((bt a0 x9_2) ≤ 57); rotate_left
     ·rw [if_neg c38] at H
      have c38b0 : decide ((bt a0 x9_2) ≤ 57) = false := decide_eq_false c38
      clear c38
      exact absurd ((Option.some.inj H).trans hr_.out) (by decide)
     rw [if_pos c38] at H
     have c38b0 : decide ((bt a0 x9_2) ≤ 57) = true := decide_eq_true c38
     clear c38
     have H' := Aside0.mk H
     clear H
     have p31 : 0 ≤ (x9_2 : Int) := od
     have q31 : x9_2 < (a0.size : Int) := od
     have hx31 := bt_at a0 x9_2
     replace p31 := eq_true p31
     replace q31 := eq_true q31
     have p33 : 0 ≤ (x9_2 : Int) := od
     have q33 : x9_2 < (a0.size : Int) := od
     have hx33 := bt_at a0 x9_2
     replace p33 := eq_true p33
     replace q33 := eq_true q33
     have p35 : 0 ≤ (x9_2 : Int) := od
     have q35 : x9_2 < (a0.size : Int) := od
     have hx35 := bt_at a0 x9_2
     replace p35 := eq_true p35
     replace q35 := eq_true q35
     have p37 : 0 ≤ (x9_2 : Int) := od
     have q37 : x9_2 < (a0.size : Int) := od
     have hx37 := bt_at a0 x9_2
     replace p37 := eq_true p37
     replace q37 := eq_true q37
     go_wp2
     go_roundg k2
     case measure => have := HJ7.out; have := HK2.out; omega
     case rel => exact ⟨(wrap64 (x9_2 + 1)), (by first | rfl | (simp; done) | (simp [*]; done)), H', ⟨by have := HJ7.out; have := HK2.out; omega⟩, ⟨bw⟩⟩

end Go.Proofs.YtpgiagdpepkooaaDoor.P
