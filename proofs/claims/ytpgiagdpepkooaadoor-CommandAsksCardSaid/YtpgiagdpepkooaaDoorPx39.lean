-- Printed by this session's program wip/xp.py (a turned copy of the kit's printer): functions, their contracts.
import Derived.Test.YtpgiagdpepkooaaDoorPx0
import Derived.Test.YtpgiagdpepkooaaDoorPx1
namespace Go.Proofs.YtpgiagdpepkooaaDoor.P
open Go.RowKit Go.Proofs.YtpgiagdpepkooaaDoorW.PrintWords Go.Proofs.YtpgiagdpepkooaaDoorW.PrintLast Go.Proofs.YtpgiagdpepkooaaDoorW.PrintMore
attribute [local go_sem] max2_int min2_int max_two min_two max_three min_three max_four min_four   -- for this text's walks alone
set_option linter.unusedVariables false
set_option linter.unusedSimpArgs false

attribute [local go_sem high] eqA23
/-! ### carillonref02_value: function 69 -/
def carillonref02_value.f (a0 : ByteArray) : Option (Int) := if 0 < (a0.size : Int) then (if 1 < (a0.size : Int) then (if 2 < (a0.size : Int) then (if 3 < (a0.size : Int) then (some (Go.bits .or .u32 (Go.bits .or .u32 (Go.bits .or .u32 ((((bt a0 0) % 4294967296) * 16777216) % 4294967296) ((((bt a0 1) % 4294967296) * 65536) % 4294967296)) ((((bt a0 2) % 4294967296) * 256) % 4294967296)) ((bt a0 3) % 4294967296))) else (none)) else (none)) else (none)) else (none)
set_option maxHeartbeats 8000000 in
set_option maxRecDepth 100000 in
theorem carillonref02_value.calls (a0 : ByteArray) (r : Int) (w : World) (h : carillonref02_value.f a0 = some r) :
  Calls Tryd.prog 69 #[.string a0] w fun e w' => e = .returned (.int .u32 r) ∧ Drawn0 w w' := by
 have H := h
 unfold carillonref02_value.f at H
 clear h
 obtain ⟨c2, H⟩ := its H
 have c2b0 : decide (0 < (a0.size : Int)) = true := decide_eq_true c2
 have c2b1 : decide (0 < a0.size) = true := decide_eq_true (by omega)
 clear c2
 obtain ⟨c4, H⟩ := its H
 have c4b0 : decide (1 < (a0.size : Int)) = true := decide_eq_true c4
 have c4b1 : decide (1 < a0.size) = true := decide_eq_true (by omega)
 clear c4
 obtain ⟨c6, H⟩ := its H
 have c6b0 : decide (2 < (a0.size : Int)) = true := decide_eq_true c6
 have c6b1 : decide (2 < a0.size) = true := decide_eq_true (by omega)
 clear c6
 obtain ⟨c8, H⟩ := its H
 have c8b0 : decide (3 < (a0.size : Int)) = true := decide_eq_true c8
 have c8b1 : decide (3 < a0.size) = true := decide_eq_true (by omega)
 clear c8
 obtain rfl := Option.some.inj H
 have p3 : 0 ≤ (0 : Int) := (by omega)
 have q3 : 0 < a0.size := (by have : (0 : Int) < (a0.size : Int) := od; omega)
 have hx3 : ∀ h : 0 < a0.size, ((a0[0]'h).toNat : Int) = bt a0 0 := bt_at a0 0
 clear p3
 have qi3 : (0 < (a0.size : Int)) = True := eq_true (od)
 replace q3 := eq_true q3
 have p5 : 0 ≤ (1 : Int) := (by omega)
 have q5 : 1 < a0.size := (by have : (1 : Int) < (a0.size : Int) := od; omega)
 have hx5 : ∀ h : 1 < a0.size, ((a0[1]'h).toNat : Int) = bt a0 1 := bt_at a0 1
 clear p5
 have qi5 : (1 < (a0.size : Int)) = True := eq_true (od)
 replace q5 := eq_true q5
 have p7 : 0 ≤ (2 : Int) := (by omega)
 have q7 : 2 < a0.size := (by have : (2 : Int) < (a0.size : Int) := od; omega)
 have hx7 : ∀ h : 2 < a0.size, ((a0[2]'h).toNat : Int) = bt a0 2 := bt_at a0 2
 clear p7
 have qi7 : (2 < (a0.size : Int)) = True := eq_true (od)
 replace q7 := eq_true q7
 have p9 : 0 ≤ (3 : Int) := (by omega)
 have q9 : 3 < a0.size := (by have : (3 : Int) < (a0.size : Int) := od; omega)
 have hx9 : ∀ h : 3 < a0.size, ((a0[3]'h).toNat : Int) = bt a0 3 := bt_at a0 3
 clear p9
 have qi9 : (3 < (a0.size : Int)) = True := eq_true (od)
 replace q9 := eq_true q9
 go_enter Tryd.func69, Tryd.ntmps69
 go_wp2
 repeat (go_quiet (fail); try go_wp2)
 go_ret
 exact ⟨by first | rfl | (simp; done) | (simp [*]; done), by repeat (first | exact Drawn0.refl _ | apply Drawn0.step)⟩

end Go.Proofs.YtpgiagdpepkooaaDoor.P
