-- Printed by this session's program wip/xp.py (a turned copy of the kit's printer): functions, their contracts.
import Derived.Test.YtmjgifhgodgghaaDoorPx0
import Derived.Test.YtmjgifhgodgghaaDoorPx11
namespace Go.Proofs.YtmjgifhgodgghaaDoor.P
open Go.RowKit Go.Proofs.YtmjgifhgodgghaaDoorW.PrintWords Go.Proofs.YtmjgifhgodgghaaDoorW.PrintLast Go.Proofs.YtmjgifhgodgghaaDoorW.PrintMore
attribute [local go_sem] max2_int min2_int max_two min_two max_three min_three max_four min_four   -- for this text's walks alone
set_option linter.unusedVariables false
set_option linter.unusedSimpArgs false

/-! ### carillonref02_Frame: function 28 -/
def carillonref02_Frame.f (k : Nat) (a0 : ByteArray) : Option (ByteArray × Bool) := if (a0.size : Int) > 400000 then (some ((⟨#[]⟩ : ByteArray), false)) else ((carillonref02_word.f (((a0.size : Int)) % 4294967296)).bind fun t280 => (if t280.size + a0.size ≤ 9223372036854775807 then ((carillonref02_Sum.f k (t280 ++ a0)).bind fun t281 => ((carillonref02_word.f t281).bind fun t282 => (if t280.size + t282.size ≤ 9223372036854775807 then (if (t280 ++ t282).size + a0.size ≤ 9223372036854775807 then (some ((t280 ++ t282) ++ a0, true)) else (none)) else (none)))) else (none)))
theorem carillonref02_Frame.mono : ∀ a0 k, LeO (carillonref02_Frame.f k a0) (carillonref02_Frame.f (k + 1) a0) := by
 intro a0 k
 unfold carillonref02_Frame.f
 repeat' first
   | (with_reducible exact carillonref02_Sum.mono _ _)
   | (with_reducible exact LeO.refl _)
   | (with_reducible exact LeO.none _)
   | (with_reducible refine LeO.ite ?_ ?_)
   | (with_reducible refine LeO.bind ?_ (fun _ => ?_))
   | exact carillonref02_Sum.mono _ _
   | exact LeO.none _
   | refine LeO.ite ?_ ?_
   | refine LeO.bind ?_ (fun _ => ?_)
set_option maxHeartbeats 8000000 in
set_option maxRecDepth 100000 in
theorem carillonref02_Frame.calls (k : Nat) (a0 : ByteArray) (r1 : ByteArray) (r2 : Bool) (w : World) (h : carillonref02_Frame.f k a0 = some (r1, r2)) :
  Calls Tryd.prog 28 #[.string a0] w fun e w' => e = .returned (.tuple #[.string r1, .bool r2]) ∧ Below w.heap.size w w' := by
 have HB := Aside0.mk (Below.refl w.heap.size w)
 have H : (if (a0.size : Int) > 400000 then (some ((⟨#[]⟩ : ByteArray), false)) else ((carillonref02_word.f (((a0.size : Int)) % 4294967296)).bind fun t280 => (if t280.size + a0.size ≤ 9223372036854775807 then ((carillonref02_Sum.f k (t280 ++ a0)).bind fun t281 => ((carillonref02_word.f t281).bind fun t282 => (if t280.size + t282.size ≤ 9223372036854775807 then (if (t280 ++ t282).size + a0.size ≤ 9223372036854775807 then (some ((t280 ++ t282) ++ a0, true)) else (none)) else (none)))) else (none)))) = some (r1, r2) := h
 clear h
 by_cases c2 : (a0.size : Int) > 400000
 ·rw [if_pos c2] at H
  have c2b0 : decide (400000 < (a0.size : Int)) = true := decide_eq_true c2
  have c2b1 : decide (400000 < a0.size) = true := decide_eq_true (by omega)
  clear c2
  simp only [Option.some.injEq, Prod.mk.injEq] at H
  obtain ⟨rfl, rfl⟩ := H
  go_enter Tryd.func28, Tryd.ntmps28
  go_wp2
  go_ret2
  exact ⟨er, bw⟩
 ·rw [if_neg c2] at H
  have c2b0 : decide (400000 < (a0.size : Int)) = false := decide_eq_false c2
  have c2b1 : decide (400000 < a0.size) = false := decide_eq_false (by omega)
  clear c2
  replace H := Option.bind_eq_some_iff.mp H
  obtain ⟨t280, A30, H⟩ := H
  replace H : (if t280.size + a0.size ≤ 9223372036854775807 then ((carillonref02_Sum.f k (t280 ++ a0)).bind fun t281 => ((carillonref02_word.f t281).bind fun t282 => (if t280.size + t282.size ≤ 9223372036854775807 then (if (t280 ++ t282).size + a0.size ≤ 9223372036854775807 then (some ((t280 ++ t282) ++ a0, true)) else (none)) else (none)))) else (none)) = some (r1, r2) := H
  have A3 := Aside0.mk A30
  clear A30
  by_cases c4 : t280.size + a0.size ≤ 9223372036854775807
  ·rw [if_pos c4] at H
   have c4b0 := eq_true c4
   have c4b1 : decide (t280.size + a0.size ≤ 9223372036854775807) = true := decide_eq_true c4
   try have c4b2 : (9223372036854775807 < t280.size + a0.size) = False := eq_false (Nat.not_lt.2 c4)
   replace H := Option.bind_eq_some_iff.mp H
   obtain ⟨t281, A50, H⟩ := H
   replace H : ((carillonref02_word.f t281).bind fun t282 => (if t280.size + t282.size ≤ 9223372036854775807 then (if (t280 ++ t282).size + a0.size ≤ 9223372036854775807 then (some ((t280 ++ t282) ++ a0, true)) else (none)) else (none))) = some (r1, r2) := H
   have A5 := Aside0.mk A50
   clear A50
   replace H := Option.bind_eq_some_iff.mp H
   obtain ⟨t282, A60, H⟩ := H
   replace H : (if t280.size + t282.size ≤ 9223372036854775807 then (if (t280 ++ t282).size + a0.size ≤ 9223372036854775807 then (some ((t280 ++ t282) ++ a0, true)) else (none)) else (none)) = some (r1, r2) := H
   have A6 := Aside0.mk A60
   clear A60
   by_cases c7 : t280.size + t282.size ≤ 9223372036854775807
   ·rw [if_pos c7] at H
    have c7b0 := eq_true c7
    have c7b1 : decide (t280.size + t282.size ≤ 9223372036854775807) = true := decide_eq_true c7
    try have c7b2 : (9223372036854775807 < t280.size + t282.size) = False := eq_false (Nat.not_lt.2 c7)
    by_cases c8 : (t280 ++ t282).size + a0.size ≤ 9223372036854775807
    ·rw [if_pos c8] at H
     have c8b0 := eq_true c8
     have c8b1 : decide ((t280 ++ t282).size + a0.size ≤ 9223372036854775807) = true := decide_eq_true c8
     try have c8b2 : (9223372036854775807 < (t280 ++ t282).size + a0.size) = False := eq_false (Nat.not_lt.2 c8)
     simp only [Option.some.injEq, Prod.mk.injEq] at H
     obtain ⟨rfl, rfl⟩ := H
     go_enter Tryd.func28, Tryd.ntmps28
     go_wp2_with (first | ((with_reducible refine gate_callee (f := 38) rfl ?_); refine goesL_ (some 11) rfl rfl Tryd.func38 (by kernel_rfl) rfl #[.int .u32 (((a0.size : Int)) % 4294967296)] rfl am ?_; (with_reducible refine (carillonref02_word.calls (((a0.size : Int)) % 4294967296) t280 _ A3.out).mono ?_); rintro e w9 ⟨rfl, hb⟩; refine ⟨_, rfl, ?_⟩; have n0_ := Aside0.mk (below_step bw hb); clear HB; have HB := n0_; clear n0_; (try clear hb); (try clear hb2); (try clear hk); (try clear hi)) | ((with_reducible refine gate_callee (f := 39) rfl ?_); refine goesL_ (some 16) rfl rfl Tryd.func39 (by kernel_rfl) rfl #[.string (t280 ++ a0)] rfl am ?_; (with_reducible refine (carillonref02_Sum.calls k (t280 ++ a0) t281 _ A5.out).mono ?_); rintro e w' ⟨rfl, ⟨nd, rfl⟩⟩; refine ⟨_, rfl, ?_⟩) | ((with_reducible refine gate_callee (f := 38) rfl ?_); refine goesL_ (some 17) rfl rfl Tryd.func38 (by kernel_rfl) rfl #[.int .u32 t281] rfl am ?_; (with_reducible refine (carillonref02_word.calls t281 t282 _ A6.out).mono ?_); rintro e w10 ⟨rfl, hb⟩; refine ⟨_, rfl, ?_⟩; have n0_ := Aside0.mk (below_step bw hb); clear HB; have HB := n0_; clear n0_; (try clear hb); (try clear hb2); (try clear hk); (try clear hi)))
     go_ret2
     exact ⟨er, bw⟩
    ·rw [if_neg c8] at H
     exact absurd H (by simp)
   ·rw [if_neg c7] at H
    exact absurd H (by simp)
  ·rw [if_neg c4] at H
   exact absurd H (by simp)

end Go.Proofs.YtmjgifhgodgghaaDoor.P
