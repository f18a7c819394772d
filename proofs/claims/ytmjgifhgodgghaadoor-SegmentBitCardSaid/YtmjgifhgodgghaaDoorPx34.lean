-- Printed by this session's program wip/xp.py (a turned copy of the kit's printer): functions, their contracts.
import Derived.Test.YtmjgifhgodgghaaDoorPx0
import Derived.Test.YtmjgifhgodgghaaDoorPx9
import Derived.Test.YtmjgifhgodgghaaDoorPx16
import Derived.Test.YtmjgifhgodgghaaDoorPx18
import Derived.Test.YtmjgifhgodgghaaDoorPx24
import Derived.StillTailTactics
namespace Go.Proofs.YtmjgifhgodgghaaDoor.P
open Go.RowKit Go.Proofs.YtmjgifhgodgghaaDoorW.PrintWords Go.Proofs.YtmjgifhgodgghaaDoorW.PrintLast Go.Proofs.YtmjgifhgodgghaaDoorW.PrintMore
attribute [local go_sem] max2_int min2_int max_two min_two max_three min_three max_four min_four   -- for this text's walks alone
set_option linter.unusedVariables false
set_option linter.unusedSimpArgs false

/-! ### carillonlaw06_SegmentBit: function 8 -/
/-- What a number comes to that is told off from nought both ways. -/
def bitZ (a : Int) : Int := if a < 0 then -(a + 1) else a
/-- Where the row that is touched begins. -/
def bitSt (E : List Int) (at_ : Nat) : Int := if 0 < at_ then rd E ((at_ - 1 : Nat) : Int) else 0
/-- The place of the bit that is turned: in that row, behind its length. -/
def bitP (E : List Int) (at_ : Nat) (a : Int) : Nat := (8 * bitSt E at_ + 32 + bitZ a % (8 * (rd E (at_ : Int) - bitSt E at_) - 32)).toNat
/-- Which row is touched. -/
def bitAt (n : Nat) (a : Int) : Nat := (bitZ a).toNat % n
/-- A text with one bit turned. -/
def turnedS (s : ByteArray) (i : Nat) : ByteArray := strOfNums ((s.data.toList.set (i / 8) (UInt8.ofNat ((s.data.toList.getD (i / 8) 0).toNat ^^^ 2 ^ (i % 8)))).map fun c => (c.toNat : Int))
theorem below_convS (w : World) (e : TypeId) (s : ByteArray) : Below w.heap.size w (Lib.bytesWorld w e s) :=
 ⟨rfl, rfl, rfl, by rw [Lib.bytesWorld_size]; omega, fun i hi => Lib.bytesWorld_at_old w e s i hi⟩
theorem u8_xor_powS (c k : Nat) (hc : c < 256) (hk : k < 8) : Go.bits .xor .u8 (c : Int) ((2 : Int) ^ k % 256) = ((c ^^^ 2 ^ k : Nat) : Int) := by
 have h1 : ∀ j : Fin 8, (2 : Int) ^ j.val % 256 = ((2 ^ j.val : Nat) : Int) := by decide
 have h2 : ∀ j : Fin 8, 2 ^ j.val < 256 := by decide
 rw [h1 ⟨k, hk⟩]
 exact u8_xor_nat c (2 ^ k) hc (h2 ⟨k, hk⟩)
theorem xor_pow_ltS {c k : Nat} (hc : c < 256) (hk : k < 8) : c ^^^ 2 ^ k < 256 := by
 have h2 : ∀ j : Fin 8, 2 ^ j.val < 2 ^ 8 := by decide
 exact Nat.xor_lt_two_pow (n := 8) hc (h2 ⟨k, hk⟩)
theorem set_cell_readS (W : World) (g q n : Nat) (l : List UInt8) (u : Nat) (hu : u < 256) (hl : l.length = n) (hq : q < n)
  (H : ∀ j, j < n → W.cell? ⟨g, j, none⟩ = some (.int .u8 ((l.getD j 0).toNat : Int))) :
  ∀ i, i < n → (W.setCell ⟨g, q, none⟩ (.int .u8 (u : Int))).drew.cell? ⟨g, 0 + i, none⟩ = some (.int .u8 (((l.set q (UInt8.ofNat u)).map fun c => (c.toNat : Int)).getD i 0)) := by
 intro i hi
 rw [Nat.zero_add]
 show (W.setCell ⟨g, q, none⟩ (.int .u8 (u : Int))).cell? ⟨g, i, none⟩ = _
 rw [List.getD_eq_getElem?_getD, List.getElem?_map, List.getElem?_set]
 by_cases h : q = i
 ·subst h
  rw [if_pos rfl, if_pos (by omega), World.cell?_setCell_same W _ _ (H q hq)]
  simp only [Option.map_some, Option.getD_some, UInt8.toNat_ofNat']
  rw [Nat.mod_eq_of_lt (by omega)]
 ·have hne : (⟨g, q, none⟩ : Addr) ≠ ⟨g, i, none⟩ := by intro e; injection e with _ e2 _; exact h e2
  have ho : (W.setCell ⟨g, q, none⟩ (.int .u8 (u : Int))).cell? ⟨g, i, none⟩ = W.cell? ⟨g, i, none⟩ := by
   first | exact World.cell?_setCell_other W _ _ hne | exact World.cell?_setCell_other W _ _ _ hne
  rw [if_neg h, ho, H i hi, List.getD_eq_getElem?_getD, List.getElem?_eq_getElem (by omega)]
  rfl
theorem bit_arith {st en z : Int} (h0 : 0 ≤ st) (h1 : st + 8 ≤ en) (h2 : en ≤ 1000000) (hz : 0 ≤ z) : ∃ p : Nat, p = (8 * st + 32 + z % (8 * (en - st) - 32)).toNat ∧ (p : Int) = 8 * st + 32 + z.tmod (8 * (en - st) - 32) ∧ 8 * st + 32 ≤ (p : Int) ∧ (p : Int) < 8 * en := by
 refine ⟨_, rfl, ?_⟩
 have g1 := Int.emod_nonneg z (show 8 * (en - st) - 32 ≠ 0 by omega)
 have g2 := Int.emod_lt_of_pos z (show 0 < 8 * (en - st) - 32 by omega)
 rw [Int.tmod_eq_emod_of_nonneg hz]
 generalize z % (8 * (en - st) - 32) = m at *
 omega
def carillonlaw06_SegmentBit.f (k : Nat) (l0 : List S23) (a1 a2 : Int) : Option Bool :=
 match carillonlaw06_rising.f k l0 with
 | none => none
 | some L => match carillonlaw06_written.f k L with
  | none => none
  | some (s, E) => if L.length = 0 then some true else
   match segment_Scan.f k 0 (turnedS s (bitP E (bitAt L.length a1) a2)) with
   | none => none
   | some (t, q, e) => if E.length = L.length ∧ L.length ≤ 1000 ∧ 0 ≤ bitSt E (bitAt L.length a1) ∧ bitSt E (bitAt L.length a1) + 8 ≤ rd E ((bitAt L.length a1 : Nat) : Int) ∧ rd E ((bitAt L.length a1 : Nat) : Int) ≤ (s.size : Int) ∧ s.size ≤ 1000000 ∧ -9223372036854775808 ≤ a1 ∧ a1 ≤ 9223372036854775807 ∧ -9223372036854775808 ≤ a2 ∧ a2 ≤ 9223372036854775807 ∧ q = bitSt E (bitAt L.length a1) ∧ e = 4 ∧ carillonlaw06_records.f k t (L.take (bitAt L.length a1)) = some true then some true else none
set_option maxHeartbeats 4000000 in
set_option maxRecDepth 100000 in
theorem carillonlaw06_SegmentBit.calls (k : Nat) (A0 : Option Addr) (c0 : Nat) (l0 : List (S23)) (a1 a2 : Int) (r : Bool) (w : World) (hr0 : Kd.C k23 w A0 l0.length l0) (hc0 : l0.length ≤ c0) (hr_ : Aside0 (r = true)) (HT_ : TabOk w) (h : carillonlaw06_SegmentBit.f k l0 a1 a2 = some r) :
  Calls Tryd.prog 8 #[.slice A0 l0.length c0, .int .i64 a1, .int .i64 a2] w fun e w' => e = .returned (.bool r) ∧ Below w.heap.size w w' := by
 have HT := Aside0.mk HT_
 clear HT_
 have HR0 := Aside0.mk hr0
 have HC0 := Aside0.mk hc0
 clear hr0 hc0
 have HB := Aside0.mk (Below.refl w.heap.size w)
 unfold carillonlaw06_SegmentBit.f at h
 split at h
 case h_1 => exact absurd h (by simp)
 rename_i L hL
 have A4 := Aside0.mk hL
 clear hL
 split at h
 case h_1 => exact absurd h (by simp)
 rename_i s E hS
 have A5 := Aside0.mk hS
 clear hS
 have A3 := Aside0.mk (show carillonlaw06_examples.f = some true from rfl)
 by_cases h0 : L.length = 0
 ·rw [if_pos h0] at h
  obtain rfl := Option.some.inj h
  clear h
  have c0b : ((L.length : Int) == 0) = true := beq_iff_eq.mpr (by omega)
  clear h0
  go_enter Tryd.func8, Tryd.ntmps8
  go_wp2_with (first | (go_at_call 9; (with_reducible refine (carillonlaw06_examples.calls true _ tbk A3.out).mono ?_); rintro e w13 ⟨rfl, hb⟩; have n0_ := Aside0.mk (below_step bw hb); clear HB; have HB := n0_; clear n0_; (try clear hb)) | (go_at_call 23; (with_reducible refine (carillonlaw06_rising.calls k _ _ l0 L _ ?side1 ?side2 A4.out).mono ?_); (case side1 => repeat (first | exact (Kd.C_below HR0.out HB.out) | (with_reducible refine Kd.C_alloc ?_ _) | (with_reducible refine Kd.C_drewN ?_ _) | (with_reducible refine Kd.C_drew ?_))); (case side2 => exact HC0.out); rintro e w14 ⟨v455, rfl, ho0, hb⟩; have n0_ := Aside0.mk (Kd.R_lower ho0 (below_size bw)); have n1_ := Aside0.mk (below_step bw hb); clear HB; have HO456 := n0_; have HB := n1_; clear n0_ n1_; (try clear hb); (try clear ho0); obtain ⟨Ao15, co15, eo15⟩ := Kd.R_slice HO456.out; subst eo15) | (go_at_call 24; (with_reducible refine (carillonlaw06_written.calls k _ _ L s E _ ?side1 ?side2 tbk A5.out).mono ?_); (case side1 => repeat (first | exact (Kd.R_reads' HO456.out).2.2 | (with_reducible refine Kd.C_alloc ?_ _) | (with_reducible refine Kd.C_drewN ?_ _) | (with_reducible refine Kd.C_drew ?_))); (case side2 => exact (Kd.R_reads' HO456.out).2.1); rintro e w16 ⟨v459, rfl, ho0, hb⟩; have n0_ := Aside0.mk (Kd.R_below (by (with_reducible repeat (first | apply Kd.R_alloc | apply Kd.R_drewN | apply Kd.R_drew)); exact HO456.out) hb); have n1_ := Aside0.mk (Kd.R_lower ho0 (below_size bw)); have n2_ := Aside0.mk (below_step bw hb); clear HO456; clear HB; have HO456 := n0_; have HO460 := n1_; have HB := n2_; clear n0_ n1_ n2_; (try clear hb); (try clear ho0); obtain ⟨Ao16, co16, eo16⟩ := Kd.R_slice HO460.out; subst eo16))
  go_ret
  exact ⟨by first | rfl | (simp; done), bw⟩
 rw [if_neg h0] at h
 split at h
 case h_1 => exact absurd h (by simp)
 rename_i t q e hT
 split at h
 case isFalse => exact absurd h (by simp)
 rename_i hc
 obtain ⟨hEl, hLl, hst, hen, hes, hs, ha1, ha1', ha2, ha2', rfl, rfl, hrec⟩ := hc
 obtain rfl := Option.some.inj h
 clear h
 have A6 := Aside0.mk hT
 have A7 := Aside0.mk hrec
 clear hT hrec
 have hz1 : 0 ≤ bitZ a1 ∧ bitZ a1 ≤ 9223372036854775807 := by unfold bitZ; split <;> omega
 have hz2 : 0 ≤ bitZ a2 ∧ bitZ a2 ≤ 9223372036854775807 := by unfold bitZ; split <;> omega
 have hlt : bitAt L.length a1 < L.length := Nat.mod_lt _ (by omega)
 have hat : Int.tmod (bitZ a1) (L.length : Int) = ((bitAt L.length a1 : Nat) : Int) := by
  rw [Int.tmod_eq_emod_of_nonneg hz1.1]; unfold bitAt
  rw [Int.natCast_emod, Int.toNat_of_nonneg hz1.1]
 obtain ⟨p, hp, hpz, hp1, hp2⟩ := bit_arith hst hen (by omega) hz2.1
 have ep : bitP E (bitAt L.length a1) a2 = p := by rw [hp]; rfl
 rw [ep] at A6
 clear hp ep
 generalize hu : bitAt L.length a1 = u at *
 clear hu
 generalize HST : bitSt E u = st at *
 generalize HZ1 : bitZ a1 = z1 at *
 generalize HZ2 : bitZ a2 = z2 at *
 have KST := Aside0.mk HST
 have KZ1 := Aside0.mk HZ1
 have KZ2 := Aside0.mk HZ2
 have KPZ := Aside0.mk hpz
 have KEL := Aside0.mk hEl
 clear HST HZ1 HZ2 hpz hEl
 have c0b : ((L.length : Int) == 0) = false := beq_eq_false_iff_ne.mpr (by omega)
 have c0n : ((L.length : Int) != 0) = true := bne_iff_ne.mpr (by omega)
 go_enter Tryd.func8, Tryd.ntmps8
 go_upto_if 31 with (first | (go_at_call 9; (with_reducible refine (carillonlaw06_examples.calls true _ tbk A3.out).mono ?_); rintro e w13 ⟨rfl, hb⟩; have n0_ := Aside0.mk (below_step bw hb); clear HB; have HB := n0_; clear n0_; (try clear hb)) | (go_at_call 23; (with_reducible refine (carillonlaw06_rising.calls k _ _ l0 L _ ?side1 ?side2 A4.out).mono ?_); (case side1 => repeat (first | exact (Kd.C_below HR0.out HB.out) | (with_reducible refine Kd.C_alloc ?_ _) | (with_reducible refine Kd.C_drewN ?_ _) | (with_reducible refine Kd.C_drew ?_))); (case side2 => exact HC0.out); rintro e w14 ⟨v455, rfl, ho0, hb⟩; have n0_ := Aside0.mk (Kd.R_lower ho0 (below_size bw)); have n1_ := Aside0.mk (below_step bw hb); clear HB; have HO456 := n0_; have HB := n1_; clear n0_ n1_; (try clear hb); (try clear ho0); obtain ⟨Ao15, co15, eo15⟩ := Kd.R_slice HO456.out; subst eo15) | (go_at_call 24; (with_reducible refine (carillonlaw06_written.calls k _ _ L s E _ ?side1 ?side2 tbk A5.out).mono ?_); (case side1 => repeat (first | exact (Kd.R_reads' HO456.out).2.2 | (with_reducible refine Kd.C_alloc ?_ _) | (with_reducible refine Kd.C_drewN ?_ _) | (with_reducible refine Kd.C_drew ?_))); (case side2 => exact (Kd.R_reads' HO456.out).2.1); rintro e w16 ⟨v459, rfl, ho0, hb⟩; have n0_ := Aside0.mk (Kd.R_below (by (with_reducible repeat (first | apply Kd.R_alloc | apply Kd.R_drewN | apply Kd.R_drew)); exact HO456.out) hb); have n1_ := Aside0.mk (Kd.R_lower ho0 (below_size bw)); have n2_ := Aside0.mk (below_step bw hb); clear HO456; clear HB; have HO456 := n0_; have HO460 := n1_; have HB := n2_; clear n0_ n1_ n2_; (try clear hb); (try clear ho0); obtain ⟨Ao16, co16, eo16⟩ := Kd.R_slice HO460.out; subst eo16))
 go_cut [1] (fun v1 wc => v1 = .int .i64 z1 ∧ Aside0 (Kd.R k23 23 wc w.heap.size (fun _ => True) (.slice Ao15 L.length co15) L) ∧ Aside0 (Kd.R (Kd.int .i64) 3 wc w.heap.size (fun _ => True) (.slice Ao16 E.length co16) E) ∧ Aside0 (Below w.heap.size w wc))
 case first =>
  by_cases c1 : a1 < 0
  ·have c1b : decide (a1 < 0) = true := decide_eq_true c1
   have c1 := Aside0.mk c1
   go_wp2
   go_meet
   case rel => exact ⟨by apply congrArg (Value.int .i64); have h1_ := KZ1.out; have h2_ := c1.out; unfold bitZ at h1_; rw [if_pos h2_] at h1_; (try simp only [i64_w]); (try unfold wrap64); omega, ⟨by (with_reducible repeat (first | apply Kd.R_alloc | apply Kd.R_drewN | apply Kd.R_drew)); exact HO456.out⟩, ⟨by (with_reducible repeat (first | apply Kd.R_alloc | apply Kd.R_drewN | apply Kd.R_drew)); exact HO460.out⟩, ⟨bw⟩⟩
  ·have c1b : decide (a1 < 0) = false := decide_eq_false c1
   have c1 := Aside0.mk c1
   go_wp2
   go_meet
   case rel => exact ⟨by apply congrArg (Value.int .i64); have h1_ := KZ1.out; have h2_ := c1.out; unfold bitZ at h1_; rw [if_neg (by omega)] at h1_; omega, ⟨by (with_reducible repeat (first | apply Kd.R_alloc | apply Kd.R_drewN | apply Kd.R_drew)); exact HO456.out⟩, ⟨by (with_reducible repeat (first | apply Kd.R_alloc | apply Kd.R_drewN | apply Kd.R_drew)); exact HO460.out⟩, ⟨bw⟩⟩
 case rest =>
 clear HO456 HO460 HB
 obtain ⟨rfl, HO456, HO460, HB⟩ := hcut
 go_upto_if 36 with (fail)
 go_cut [2] (fun v2 wc => v2 = .int .i64 z2 ∧ Aside0 (Kd.R k23 23 wc w.heap.size (fun _ => True) (.slice Ao15 L.length co15) L) ∧ Aside0 (Kd.R (Kd.int .i64) 3 wc w.heap.size (fun _ => True) (.slice Ao16 E.length co16) E) ∧ Aside0 (Below w.heap.size w wc))
 case first =>
  by_cases c1 : a2 < 0
  ·have c1b : decide (a2 < 0) = true := decide_eq_true c1
   have c1 := Aside0.mk c1
   go_wp2
   go_meet
   case rel => exact ⟨by apply congrArg (Value.int .i64); have h1_ := KZ2.out; have h2_ := c1.out; unfold bitZ at h1_; rw [if_pos h2_] at h1_; (try simp only [i64_w]); (try unfold wrap64); omega, ⟨by (with_reducible repeat (first | apply Kd.R_alloc | apply Kd.R_drewN | apply Kd.R_drew)); exact HO456.out⟩, ⟨by (with_reducible repeat (first | apply Kd.R_alloc | apply Kd.R_drewN | apply Kd.R_drew)); exact HO460.out⟩, ⟨bw⟩⟩
  ·have c1b : decide (a2 < 0) = false := decide_eq_false c1
   have c1 := Aside0.mk c1
   go_wp2
   go_meet
   case rel => exact ⟨by apply congrArg (Value.int .i64); have h1_ := KZ2.out; have h2_ := c1.out; unfold bitZ at h1_; rw [if_neg (by omega)] at h1_; omega, ⟨by (with_reducible repeat (first | apply Kd.R_alloc | apply Kd.R_drewN | apply Kd.R_drew)); exact HO456.out⟩, ⟨by (with_reducible repeat (first | apply Kd.R_alloc | apply Kd.R_drewN | apply Kd.R_drew)); exact HO460.out⟩, ⟨bw⟩⟩
 case rest =>
 clear HO456 HO460 HB
 obtain ⟨rfl, HO456, HO460, HB⟩ := hcut
 go_upto_if 45 with (fail)
 go_cut [11] (fun v11 wc => v11 = .int .i64 st ∧ Aside0 (Kd.R k23 23 wc w.heap.size (fun _ => True) (.slice Ao15 L.length co15) L) ∧ Aside0 (Kd.R (Kd.int .i64) 3 wc w.heap.size (fun _ => True) (.slice Ao16 E.length co16) E) ∧ Aside0 (Below w.heap.size w wc))
 case first =>
  by_cases c1 : 0 < u
  ·have c1b : decide (0 < (u : Int)) = true := decide_eq_true (by omega)
   have c1d : decide (0 < u) = true := decide_eq_true c1
   have p467 : 0 ≤ ((u - 1 : Nat) : Int) := by omega
   have q467 : ((u - 1 : Nat) : Int) < (E.length : Int) := by have := KEL.out; omega
   obtain ⟨ad467, e467, hx467_0⟩ := Kd.at_int (Kd.R_reads' HO460.out).2.2 _ p467 q467
   cases e467
   have hst0 : rd E ((u - 1 : Nat) : Int) = st := by have h1_ := KST.out; unfold bitSt at h1_; rw [if_pos c1] at h1_; exact h1_
   rw [hst0] at hx467_0
   clear hst0
   have hw1 : IntKind.i64.wrap ((u : Int) - 1) = ((u - 1 : Nat) : Int) := by rw [IntKind.wrap_i64]; omega
   have c1 := Aside0.mk c1
   generalize ((u - 1 : Nat) : Int) = ji at *
   replace p467 := eq_true p467
   replace q467 := eq_true q467
   go_wp2
   go_meet
   case rel => exact ⟨rfl, ⟨by (with_reducible repeat (first | apply Kd.R_alloc | apply Kd.R_drewN | apply Kd.R_drew)); exact HO456.out⟩, ⟨by (with_reducible repeat (first | apply Kd.R_alloc | apply Kd.R_drewN | apply Kd.R_drew)); exact HO460.out⟩, ⟨bw⟩⟩
  ·have c1b : decide (0 < (u : Int)) = false := decide_eq_false (by omega)
   have c1d : decide (0 < u) = false := decide_eq_false c1
   have c1 := Aside0.mk c1
   go_wp2
   go_meet
   case rel => exact ⟨by have h1_ := KST.out; unfold bitSt at h1_; rw [if_neg (by have := c1.out; omega)] at h1_; rw [← h1_], ⟨by (with_reducible repeat (first | apply Kd.R_alloc | apply Kd.R_drewN | apply Kd.R_drew)); exact HO456.out⟩, ⟨by (with_reducible repeat (first | apply Kd.R_alloc | apply Kd.R_drewN | apply Kd.R_drew)); exact HO460.out⟩, ⟨bw⟩⟩
 case rest =>
 clear HO456 HO460 HB
 obtain ⟨rfl, HO456, HO460, HB⟩ := hcut
 have p467 : 0 ≤ (u : Int) := by omega
 have q467 : (u : Int) < (E.length : Int) := by have := KEL.out; omega
 obtain ⟨ad467, e467, hx467_0⟩ := Kd.at_int (Kd.R_reads' HO460.out).2.2 _ p467 q467
 cases e467
 replace p467 := eq_true p467
 replace q467 := eq_true q467
 generalize rd E (u : Int) = en at *
 (try simp only [Int.toNat_natCast] at hx467_0)
 go_upto_region 15 with (fail)
 have hw : wrap64 (8 * st + 32 + z2 % (8 * (en - st) - 32)) = (p : Int) := by
  have h1_ := KPZ.out
  rw [Int.tmod_eq_emod_of_nonneg hz2.1] at h1_
  rw [← h1_]
  unfold wrap64
  omega
 rw [hw]
 clear hw
 go_wp2
 have hconv := Lib.run_convert_string_bytes (P := Tryd.prog) wc 9 55 5 s Tryd.underlying9 Tryd.underlying55 Tryd.underlying5
 have hgs : Aside0 (w.heap.size ≤ wc.heap.size) := ⟨HB.out.size⟩
 have HOx : Aside0 (∀ (j : Nat) (v : Value), Kd.R k23 23 ((Lib.bytesWorld wc 5 s).setCell ⟨wc.heap.size, j, none⟩ v) w.heap.size (fun _ => True) (.slice Ao15 L.length co15) L) := ⟨fun j v => Kd.R_below HO456.out (below_set (below_convS wc 5 s) (Nat.le_refl _))⟩
 have n0_ := Aside0.mk (below_step HB.out (below_convS wc 5 s))
 clear HB HO456 HO460
 have HB := n0_
 clear n0_
 have hc0 := Lib.bytesWorld_cell wc 5 s (p / 8) (by omega)
 have HCB := Aside0.mk (Lib.bytesWorld_cell wc 5 s)
 have HL : wc.heap.size < (Lib.bytesWorld wc 5 s).heap.size := by rw [Lib.bytesWorld_size]; omega
 have hfz : ∀ j, j < s.size → (Lib.bytesWorld wc 5 s).frozen? ⟨wc.heap.size, j, none⟩ = false := by
  intro j hj
  have hh := Lib.bytesWorld_at_new wc 5 s
  simp only [World.frozen?, hh]
  simp only [Bool.and_eq_false_iff, decide_eq_false_iff_not]
  left
  have : s.size ≤ (Lib.bytesCells wc 5 s).size := by unfold Lib.bytesCells; simp; try omega
  omega
 have hf0 := hfz (p / 8) (by omega)
 clear hfz
 generalize Lib.bytesWorld wc 5 s = W1 at *
 generalize wc.heap.size = g at *
 generalize grownCap wc s.size 0 5 = cap at *
 generalize hcv : (s.data.toList.getD (p / 8) 0).toNat = cv at *
 have hcl : cv < 256 := by rw [← hcv]; exact UInt8.toNat_lt _
 have HV := Aside0.mk hcv
 clear hcv
 rw [hconv]
 go_wp2
 obtain ⟨q, hq⟩ : ∃ q, q = p / 8 := ⟨_, rfl⟩
 obtain ⟨m, hk⟩ : ∃ k, k = p % 8 := ⟨_, rfl⟩
 rw [← hq] at hc0 hf0
 have q1 : IntKind.i64.wrap ((p : Int) / 8) = (q : Int) := by rw [IntKind.wrap_i64]; omega
 have k1 : Int.tmod (p : Int) 8 = (m : Int) := by rw [Int.tmod_eq_emod_of_nonneg (by omega)]; omega
 have q2 : (0 : Int) ≤ (q : Int) := by omega
 have q3 : (q : Int) < (s.size : Int) := by omega
 have k2 : (m : Int) < 8 := by omega
 have k3 : (0 : Int) ≤ (m : Int) := by omega
 have HQ := Aside0.mk hq
 have HK := Aside0.mk hk
 clear hq hk
 go_still_tail 12, (by kernel_rfl)
 change wpList _ _ _ _ _ W1.drew
 go_wp2
 have hx : bits .xor .u8 (cv : Int) (2 ^ m % 256) = ((cv ^^^ 2 ^ m : Nat) : Int) := u8_xor_powS cv m hcl (by omega)
 rw [hx]
 have hback := run_convert_bytes_arg (P := Tryd.prog) (W1.setCell ⟨g, q, none⟩ (.int .u8 ((cv ^^^ 2 ^ m : Nat) : Int))).drew 55 5 Tryd.underlying55 Tryd.underlying5 g 0 s.size cap
  ((s.data.toList.set q (UInt8.ofNat (cv ^^^ 2 ^ m))).map fun c => (c.toNat : Int)) (by rw [List.length_map, List.length_set, Array.length_toList]; rfl) (set_cell_readS W1 g q s.size s.data.toList _ (xor_pow_ltS hcl (by omega)) (by rw [Array.length_toList]; rfl) (by omega) HCB.out) 9 Tryd.underlying9
 rw [hback]
 rw [show strOfNums ((s.data.toList.set q (UInt8.ofNat (cv ^^^ 2 ^ m))).map fun c => (c.toNat : Int)) = turnedS s p by unfold turnedS; rw [HQ.out, HK.out, HV.out]]
 have n0_ := Aside0.mk (below_set HB.out (j := q) (v := .int .u8 ((cv ^^^ 2 ^ m : Nat) : Int)) hgs.out)
 have n1_ := Aside0.mk (HOx.out q (.int .u8 ((cv ^^^ 2 ^ m : Nat) : Int)))
 clear HB HOx
 have HB := n0_
 have HO456 := n1_
 clear n0_ n1_
 generalize W1.setCell ⟨g, q, none⟩ (.int .u8 ((cv ^^^ 2 ^ m : Nat) : Int)) = W2 at *
 clear hconv hback hx
 go_wp2_with (first | (go_at_call 15; (with_reducible refine (segment_Scan.calls k 0 (turnedS s p) t st 4 _ (by first | exact tbk | exact TabOk.below HT.out (below_drew HB.out) | exact TabOk.below HT.out HB.out) A6.out).mono ?_); rintro e w35 ⟨v471, rfl, ho0, hb⟩; have n0_ := Aside0.mk (Kd.R_elder' (by (with_reducible repeat (first | apply Kd.R_alloc | apply Kd.R_drewN | apply Kd.R_drew)); exact HO456.out) (Kd.R_base ho0) hb); have n2_ := Aside0.mk (Kd.R_lower (Kd.R_new' ho0 (Kd.R_lt (by (with_reducible repeat (first | apply Kd.R_alloc | apply Kd.R_drewN | apply Kd.R_drew)); exact HO456.out))) (below_size bw)); have n3_ := Aside0.mk (below_step bw hb); clear HO456; clear HB; have HO456 := n0_; have HO472 := n2_; have HB := n3_; clear n0_ n2_ n3_; (try clear hb); (try clear ho0); have q36 : (u : Int) ≤ ((L.length : Int) : Int) := (by omega); obtain ⟨i036, hi036, _, hsz36, _⟩ := info_parts info23; have hroom36 : L.length ≤ co15 := (Kd.R_reads' HO456.out).2.1; have hC36 : Kd.C k23 _ Ao15 L.length L := (Kd.R_reads' HO456.out).2.2; have hcut36 := cut_to (P := Tryd.prog) 31 23 .i64 Tryd.underlying31 hi036 Ao15 L.length co15 (u : Int) (by omega) q36 hroom36; have hr36 := Kd.C_take (m := u) hC36 (by omega); have hy36 : (L.take u).length = u := (by rw [List.length_take]; omega); (try simp only [Int.toNat_natCast] at hcut36); have HR476 := Aside0.mk hr36; have HC476 := Aside0.mk (show u ≤ co15 from by omega); clear hr36 hC36 hroom36 hi036 hsz36; have KY36 := Aside0.mk hy36; clear hy36; have q37 : (0 : Int) ≤ (u : Int) := (by omega); replace q36 := eq_true q36; replace q37 := eq_true q37; obtain ⟨Ao37, co37, eo37⟩ := Kd.R_slice HO472.out; subst eo37) | (go_at_call 16; have hcl_ := carillonlaw06_records.calls k Ao37 co37 t Ao15 co15 (L.take u) true _ (by repeat (first | exact (Kd.R_reads' HO472.out).2.2 | (with_reducible refine Kd.C_alloc ?_ _) | (with_reducible refine Kd.C_drewN ?_ _) | (with_reducible refine Kd.C_drew ?_))) (Kd.R_reads' HO472.out).2.1 (by repeat (first | exact HR476.out | (with_reducible refine Kd.C_alloc ?_ _) | (with_reducible refine Kd.C_drewN ?_ _) | (with_reducible refine Kd.C_drew ?_))) (by rw [KY36.out]; exact HC476.out) A7.out; rw [KY36.out] at hcl_; refine hcl_.mono ?_; clear hcl_; rintro e w' ⟨rfl, ⟨nd, rfl⟩⟩))
 go_ret
 exact ⟨by first | rfl | (simp; done), bw⟩

end Go.Proofs.YtmjgifhgodgghaaDoor.P
