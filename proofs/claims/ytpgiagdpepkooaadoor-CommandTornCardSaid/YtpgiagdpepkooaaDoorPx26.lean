-- Printed by this session's program wip/xp.py (a turned copy of the kit's printer): functions, their contracts.
import Derived.Test.YtpgiagdpepkooaaDoorPx0
import Derived.Test.YtpgiagdpepkooaaDoorPx9
import Derived.Test.YtpgiagdpepkooaaDoorPx29
namespace Go.Proofs.YtpgiagdpepkooaaDoor.P
open Go.RowKit Go.Proofs.YtpgiagdpepkooaaDoorW.PrintWords Go.Proofs.YtpgiagdpepkooaaDoorW.PrintLast Go.Proofs.YtpgiagdpepkooaaDoorW.PrintMore
attribute [local go_sem] max2_int min2_int max_two min_two max_three min_three max_four min_four   -- for this text's walks alone
set_option linter.unusedVariables false
set_option linter.unusedSimpArgs false

/-! ### carillonlaw14_CommandTorn: function 8 -/
/-- What a number comes to that is told off from nought both ways. -/
def bitZ (a : Int) : Int := if a < 0 then -(a + 1) else a
/-- A text with one bit turned. -/
def turnedT (s : ByteArray) (i : Nat) : ByteArray := strOfNums ((s.data.toList.set (i / 8) (UInt8.ofNat ((s.data.toList.getD (i / 8) 0).toNat ^^^ 2 ^ (i % 8)))).map fun c => (c.toNat : Int))
theorem below_convT (w : World) (e : TypeId) (s : ByteArray) : Below w.heap.size w (Lib.bytesWorld w e s) :=
 ⟨rfl, rfl, rfl, by rw [Lib.bytesWorld_size]; omega, fun i hi => Lib.bytesWorld_at_old w e s i hi⟩
theorem u8_xor_powT (c k : Nat) (hc : c < 256) (hk : k < 8) : Go.bits .xor .u8 (c : Int) ((2 : Int) ^ k % 256) = ((c ^^^ 2 ^ k : Nat) : Int) := by
 have h1 : ∀ j : Fin 8, (2 : Int) ^ j.val % 256 = ((2 ^ j.val : Nat) : Int) := by decide
 have h2 : ∀ j : Fin 8, 2 ^ j.val < 256 := by decide
 rw [h1 ⟨k, hk⟩]
 exact u8_xor_nat c (2 ^ k) hc (h2 ⟨k, hk⟩)
theorem xor_pow_ltW {c k : Nat} (hc : c < 256) (hk : k < 8) : c ^^^ 2 ^ k < 256 := by
 have h2 : ∀ j : Fin 8, 2 ^ j.val < 2 ^ 8 := by decide
 exact Nat.xor_lt_two_pow (n := 8) hc (h2 ⟨k, hk⟩)
theorem set_cell_readT (W : World) (g q n : Nat) (l : List UInt8) (u : Nat) (hu : u < 256) (hl : l.length = n) (hq : q < n)
  (H : ∀ j, j < n → W.cell? ⟨g, j, none⟩ = some (.int .u8 ((l.getD j 0).toNat : Int))) :
  ∀ i, i < n → (W.setCell ⟨g, q, none⟩ (.int .u8 (u : Int))).drew.cell? ⟨g, 0 + i, none⟩ = some (.int .u8 (((l.set q (UInt8.ofNat u)).map fun c => (c.toNat : Int)).getD i 0)) := by
 intro i hi
 rw [Nat.zero_add]
 show (W.setCell ⟨g, q, none⟩ (.int .u8 (u : Int))).cell? ⟨g, i, none⟩ = _
 rw [List.getD_eq_getElem?_getD, List.getElem?_map, List.getElem?_set]
 by_cases h : q = i
 ·subst h
  rw [if_pos rfl, if_pos (by omega), World.cell?_setCell_same W _ _ (H q hq)]
  simp only [Option.map_some, Option.getD_some, UInt8.toNat_ofNat']
  rw [Nat.mod_eq_of_lt (by omega)]
 ·have hne : (⟨g, q, none⟩ : Addr) ≠ ⟨g, i, none⟩ := by intro e; injection e with _ e2 _; exact h e2
  have ho : (W.setCell ⟨g, q, none⟩ (.int .u8 (u : Int))).cell? ⟨g, i, none⟩ = W.cell? ⟨g, i, none⟩ := by
   first | exact World.cell?_setCell_other W _ _ hne | exact World.cell?_setCell_other W _ _ _ hne
  rw [if_neg h, ho, H i hi, List.getD_eq_getElem?_getD, List.getElem?_eq_getElem (by omega)]
  rfl
/-- The place of the bit that is turned: behind the length. -/
def tornP (n : Nat) (a : Int) : Nat := 32 + (bitZ a).toNat % (8 * n - 32)
open Classical in
noncomputable def carillonlaw14_CommandTorn.f (k : Nat) (a0_0 : Int) (a0_1 a0_2 : ByteArray) (a0_3 : Int) (a0_4 a0_5 : ByteArray) (a0_6 a0_7 a0_8 a1 a2 : Int) : Option Bool :=
 match command_Request.f k a0_0 a0_1 a0_2 a0_3 a0_4 a0_5 a0_6 0 a0_8 with
 | none => none
 | some (s, e) => if e = 0 then
   (if 8 ≤ s.size ∧ s.size ≤ 1000000 ∧ -9223372036854775808 ≤ a1 ∧ a1 ≤ 9223372036854775807 ∧ -9223372036854775808 ≤ a2 ∧ a2 ≤ 9223372036854775807 ∧
    command_Asked.f k (s.extract 0 ((bitZ a1).toNat % s.size)) = some (0, ⟨#[]⟩, ⟨#[]⟩, 0, ⟨#[]⟩, ⟨#[]⟩, 0, 0, 0, 2) ∧ command_Asked.f k (turnedT s (tornP s.size a2)) = some (0, ⟨#[]⟩, ⟨#[]⟩, 0, ⟨#[]⟩, ⟨#[]⟩, 0, 0, 0, 4) then some true else none)
  else some true
set_option maxHeartbeats 4000000 in
set_option maxRecDepth 100000 in
theorem carillonlaw14_CommandTorn.calls (k : Nat) (a0_0 : Int) (a0_1 a0_2 : ByteArray) (a0_3 : Int) (a0_4 a0_5 : ByteArray) (a0_6 a0_7 a0_8 a1 a2 : Int) (r : Bool) (w : World) (hr_ : Aside0 (r = true)) (HT_ : TabOk w) (h : carillonlaw14_CommandTorn.f k a0_0 a0_1 a0_2 a0_3 a0_4 a0_5 a0_6 a0_7 a0_8 a1 a2 = some r) :
  Calls Tryd.prog 8 #[.agg #[.int .i64 a0_0, .string a0_1, .string a0_2, .int .i64 a0_3, .string a0_4, .string a0_5, .int .i64 a0_6, .int .i64 a0_7, .int .i64 a0_8], .int .i64 a1, .int .i64 a2] w fun e w' => e = .returned (.bool r) ∧ Below w.heap.size w w' := by
 have HT := Aside0.mk HT_
 clear HT_
 have HB := Aside0.mk (Below.refl w.heap.size w)
 obtain rfl := hr_.out
 unfold carillonlaw14_CommandTorn.f at h
 split at h
 case h_1 => exact absurd h (by simp)
 rename_i s e hF
 have AF := Aside0.mk hF
 clear hF
 have AX := Aside0.mk (show carillonlaw14_examples.f = some true from rfl)
 have HH := Aside0.mk h
 clear h
 go_enter Tryd.func8, Tryd.ntmps8
 go_upto_region 2 with (first | (go_at_call 11; (with_reducible refine (carillonlaw14_examples.calls true _ tbk AX.out).mono ?_); rintro e w2 ⟨rfl, hb⟩; have BC := Aside0.mk (blk_below (blk_new w (.cells #[.int .i64 a0_0, .string a0_1, .string a0_2, .int .i64 a0_3, .string a0_4, .string a0_5, .int .i64 a0_6, .int .i64 a0_7, .int .i64 a0_8] 23)) hb); have n0_ := Aside0.mk (below_step (below_alloc HB.out _) hb); clear HB; have HB := n0_; clear n0_ hb))
 obtain ⟨c0, c1, c2, c3, c4, c5, c6, c7, c8, f0, f1, f2, f3, f4, f5, f6, f7, f8⟩ := bx9 BC.out
 go_upto_region 3 with (fail)
 clear c0 c1 c2 c3 c4 c5 c6 c7 c8 f0 f1 f2 f3 f4 f5 f6 f7 f8
 have hb1 := blk_set BC.out 7 (.int .i64 0)
 have hb2 := below_set HB.out (g := w.heap.size) (j := 7) (v := .int .i64 0) (Nat.le_refl _)
 clear BC HB
 generalize w2.setCell ⟨w.heap.size, 7, none⟩ (.int .i64 0) = w3 at *
 have BC := Aside0.mk (show w3.heap[w.heap.size]? = some (.cells #[.int .i64 a0_0, .string a0_1, .string a0_2, .int .i64 a0_3, .string a0_4, .string a0_5, .int .i64 a0_6, .int .i64 0, .int .i64 a0_8] 23 (0, 0)) from hb1)
 have HB := Aside0.mk hb2
 clear hb1 hb2
 obtain ⟨c0, c1, c2, c3, c4, c5, c6, c7, c8, f0, f1, f2, f3, f4, f5, f6, f7, f8⟩ := bx9 BC.out
 by_cases he : e = 0
 case neg =>
  have he1 : (e != 0) = true := bne_iff_ne.mpr he
  have he2 : (e == 0) = false := beq_eq_false_iff_ne.mpr he
  clear he
  go_wp2_with (first | (go_at_call 20; (with_reducible refine (command_Request.calls k a0_0 a0_1 a0_2 a0_3 a0_4 a0_5 a0_6 0 a0_8 s e _ tbk AF.out).mono ?_); rintro e w4 ⟨rfl, hb⟩; have n0_ := Aside0.mk (below_step HB.out hb); clear HB; have HB := n0_; clear n0_ hb c0 c1 c2 c3 c4 c5 c6 c7 c8 f0 f1 f2 f3 f4 f5 f6 f7 f8))
  go_ret
  exact ⟨rfl, HB.out⟩
 subst he
 have h := HH.out
 rw [if_pos rfl] at h
 split at h
 case isFalse => exact absurd h (by simp)
 rename_i hc
 obtain ⟨hs8, hs, l1, u1, l2, u2, hA1, hA2⟩ := hc
 clear h HH
 have AT := Aside0.mk hA1
 have AU := Aside0.mk hA2
 have HS := Aside0.mk hs8
 have HZ := Aside0.mk hs
 have R1 := Aside0.mk (And.intro l1 u1)
 have R2 := Aside0.mk (And.intro l2 u2)
 clear hA1 hA2 l1 u1 l2 u2 hs8 hs
 have s8 : decide ((s.size : Int) < 8) = false := decide_eq_false (by have := HS.out; omega)
 have s8b : decide (s.size < 8) = false := decide_eq_false (by have := HS.out; omega)
 obtain ⟨z1, hz1⟩ : ∃ z, z = bitZ a1 := ⟨_, rfl⟩
 obtain ⟨z2, hz2⟩ : ∃ z, z = bitZ a2 := ⟨_, rfl⟩
 have KZ1 := Aside0.mk hz1
 have KZ2 := Aside0.mk hz2
 clear hz1 hz2
 go_upto_if 35 with (first | (go_at_call 20; (with_reducible refine (command_Request.calls k a0_0 a0_1 a0_2 a0_3 a0_4 a0_5 a0_6 0 a0_8 s 0 _ tbk AF.out).mono ?_); rintro e w4 ⟨rfl, hb⟩; have n0_ := Aside0.mk (below_step HB.out hb); clear HB; have HB := n0_; clear n0_ hb c0 c1 c2 c3 c4 c5 c6 c7 c8 f0 f1 f2 f3 f4 f5 f6 f7 f8))
 go_cut [1] (fun v1 wc => v1 = .int .i64 z1 ∧ Aside0 (Below w.heap.size w wc))
 case first =>
  by_cases c1 : a1 < 0
  ·have c1b : decide (a1 < 0) = true := decide_eq_true c1
   have c1 := Aside0.mk c1
   go_wp2
   go_meet
   case rel => exact ⟨by apply congrArg (Value.int .i64); have h1_ := KZ1.out; have h2_ := c1.out; have h3_ := R1.out; unfold bitZ at h1_; rw [if_pos h2_] at h1_; (try simp only [i64_w]); (try unfold wrap64); omega, ⟨bw⟩⟩
  ·have c1b : decide (a1 < 0) = false := decide_eq_false c1
   have c1 := Aside0.mk c1
   go_wp2
   go_meet
   case rel => exact ⟨by apply congrArg (Value.int .i64); have h1_ := KZ1.out; have h2_ := c1.out; unfold bitZ at h1_; (first | rw [if_neg h2_] at h1_ | rw [if_neg (Int.not_lt.mpr h2_)] at h1_); omega, ⟨bw⟩⟩
 case rest =>
 clear HB
 obtain ⟨rfl, HB⟩ := hcut
 go_upto_if 40 with (fail)
 go_cut [2] (fun v2 wc => v2 = .int .i64 z2 ∧ Aside0 (Below w.heap.size w wc))
 case first =>
  by_cases c1 : a2 < 0
  ·have c1b : decide (a2 < 0) = true := decide_eq_true c1
   have c1 := Aside0.mk c1
   go_wp2
   go_meet
   case rel => exact ⟨by apply congrArg (Value.int .i64); have h1_ := KZ2.out; have h2_ := c1.out; have h3_ := R2.out; unfold bitZ at h1_; rw [if_pos h2_] at h1_; (try simp only [i64_w]); (try unfold wrap64); omega, ⟨bw⟩⟩
  ·have c1b : decide (a2 < 0) = false := decide_eq_false c1
   have c1 := Aside0.mk c1
   go_wp2
   go_meet
   case rel => exact ⟨by apply congrArg (Value.int .i64); have h1_ := KZ2.out; have h2_ := c1.out; unfold bitZ at h1_; (first | rw [if_neg h2_] at h1_ | rw [if_neg (Int.not_lt.mpr h2_)] at h1_); omega, ⟨bw⟩⟩
 case rest =>
 clear HB
 obtain ⟨rfl, HB⟩ := hcut
 have g1 : 0 ≤ z1 ∧ z1 ≤ 9223372036854775807 := by
  have h1_ := KZ1.out; have h3_ := R1.out; unfold bitZ at h1_; split at h1_ <;> omega
 have g2 : 0 ≤ z2 ∧ z2 ≤ 9223372036854775807 := by
  have h1_ := KZ2.out; have h3_ := R2.out; unfold bitZ at h1_; split at h1_ <;> omega
 obtain ⟨u, hu⟩ : ∃ u : Nat, u = (bitZ a1).toNat % s.size := ⟨_, rfl⟩
 rw [← hu] at AT
 have hsz := HS.out
 have hszz := HZ.out
 have hul : u < s.size := by rw [hu]; exact Nat.mod_lt _ (by omega)
 have hu1 : z1 % (s.size : Int) = (u : Int) := by
  rw [hu, ← KZ1.out, Int.natCast_emod, Int.toNat_of_nonneg g1.1]
 have hu2 : Int.tmod z1 (s.size : Int) = (u : Int) := by rw [Int.tmod_eq_emod_of_nonneg g1.1]; exact hu1
 have hu3 : (0 : Int) ≤ (u : Int) := by omega
 have hu4 : (u : Int) ≤ (s.size : Int) := by omega
 have hs0 : ((s.size : Int) = 0) = False := eq_false (by omega)
 have hs1 : ((s.size : Int) == 0) = false := beq_eq_false_iff_ne.mpr (by omega)
 clear hu
 obtain ⟨p, hp⟩ : ∃ p : Nat, p = tornP s.size a2 := ⟨_, rfl⟩
 rw [← hp] at AU
 have hp1 : 32 ≤ p := by rw [hp]; unfold tornP; omega
 have hp2 : p < 8 * s.size := by
  rw [hp]; unfold tornP
  have := Nat.mod_lt (bitZ a2).toNat (show 0 < 8 * s.size - 32 by omega)
  omega
 have hpz : 32 + z2 % (8 * (s.size : Int) - 32) = (p : Int) := by
  rw [hp, KZ2.out]
  unfold tornP
  have e : (((bitZ a2).toNat % (8 * s.size - 32) : Nat) : Int) = bitZ a2 % (8 * (s.size : Int) - 32) := by
   rw [Int.natCast_emod, Int.toNat_of_nonneg (by rw [← KZ2.out]; exact g2.1)]
   congr 1
   omega
  rw [show ((32 + (bitZ a2).toNat % (8 * s.size - 32) : Nat) : Int) = 32 + (((bitZ a2).toNat % (8 * s.size - 32) : Nat) : Int) from rfl, e]
 have hpw : wrap64 (32 + z2 % (8 * (s.size : Int) - 32)) = (p : Int) := by rw [hpz]; unfold wrap64; omega
 clear hp
 have HP1 := Aside0.mk hp1
 have HP2 := Aside0.mk hp2
 have HPZ := Aside0.mk hpz
 have HPW := Aside0.mk hpw
 have HUL := Aside0.mk hul
 clear hp1 hp2 hpz hpw hul
 go_upto_region 11 with (first | (go_at_call 22; (with_reducible refine (command_Asked.calls k _ 0 ⟨#[]⟩ ⟨#[]⟩ 0 ⟨#[]⟩ ⟨#[]⟩ 0 0 0 2 _ tbk AT.out).mono ?_); rintro e w5 ⟨rfl, hb⟩; have n0_ := Aside0.mk (below_step HB.out hb); clear HB; have HB := n0_; clear n0_ hb))
 have n0_ := Aside0.mk (below_alloc HB.out (.cells #[.int .i64 0, .string ⟨#[]⟩, .string ⟨#[]⟩, .int .i64 0, .string ⟨#[]⟩, .string ⟨#[]⟩, .int .i64 0, .int .i64 0, .int .i64 0] 23))
 clear HB
 have HB := n0_
 clear n0_
 generalize w5.alloc (.cells #[.int .i64 0, .string ⟨#[]⟩, .string ⟨#[]⟩, .int .i64 0, .string ⟨#[]⟩, .string ⟨#[]⟩, .int .i64 0, .int .i64 0, .int .i64 0] 23) = w6 at *
 clear hu1 hu2 hu3 hu4 hs0 hs1
 have hp1 := HP1.out
 have hp2 := HP2.out
 have hpw := HPW.out
 go_upto_region 12 with (fail)
 go_wp2
 clear hpw
 have hconv := Lib.run_convert_string_bytes (P := Tryd.prog) w6 9 50 5 s Tryd.underlying9 Tryd.underlying50 Tryd.underlying5
 have hgs : Aside0 (w.heap.size ≤ w6.heap.size) := ⟨HB.out.size⟩
 have n0_ := Aside0.mk (below_step HB.out (below_convT w6 5 s))
 clear HB
 have HB := n0_
 clear n0_
 have hc0 := Lib.bytesWorld_cell w6 5 s (p / 8) (by omega)
 have HCB := Aside0.mk (Lib.bytesWorld_cell w6 5 s)
 have HL : w6.heap.size < (Lib.bytesWorld w6 5 s).heap.size := by rw [Lib.bytesWorld_size]; omega
 have hfz : ∀ j, j < s.size → (Lib.bytesWorld w6 5 s).frozen? ⟨w6.heap.size, j, none⟩ = false := by
  intro j hj
  have hh := Lib.bytesWorld_at_new w6 5 s
  simp only [World.frozen?, hh]
  simp only [Bool.and_eq_false_iff, decide_eq_false_iff_not]
  left
  have : s.size ≤ (Lib.bytesCells w6 5 s).size := by unfold Lib.bytesCells; simp; try omega
  omega
 have hf0 := hfz (p / 8) (by omega)
 clear hfz
 generalize Lib.bytesWorld w6 5 s = W1 at *
 generalize w6.heap.size = g at *
 generalize grownCap w6 s.size 0 5 = cap at *
 generalize hcv : (s.data.toList.getD (p / 8) 0).toNat = cv at *
 have hcl : cv < 256 := by rw [← hcv]; exact UInt8.toNat_lt _
 have HV := Aside0.mk hcv
 clear hcv
 rw [hconv]
 (try rw [HPW.out])
 go_wp2
 obtain ⟨q, hq⟩ : ∃ q, q = p / 8 := ⟨_, rfl⟩
 obtain ⟨kb, hk⟩ : ∃ k, k = p % 8 := ⟨_, rfl⟩
 rw [← hq] at hc0 hf0
 have q1 : IntKind.i64.wrap ((p : Int) / 8) = (q : Int) := by rw [IntKind.wrap_i64]; omega
 have k1 : Int.tmod (p : Int) 8 = (kb : Int) := by rw [Int.tmod_eq_emod_of_nonneg (by omega)]; omega
 have q2 : (0 : Int) ≤ (q : Int) := by omega
 have q3 : (q : Int) < (s.size : Int) := by omega
 have k2 : (kb : Int) < 8 := by omega
 have k3 : (0 : Int) ≤ (kb : Int) := by omega
 have HQ := Aside0.mk hq
 have HK := Aside0.mk hk
 clear hq hk
 go_still_tail 12, (by kernel_rfl)
 change wpList _ _ _ _ _ W1.drew
 go_wp2
 have hx : bits .xor .u8 (cv : Int) (2 ^ kb % 256) = ((cv ^^^ 2 ^ kb : Nat) : Int) := u8_xor_powT cv kb hcl (by omega)
 rw [hx]
 have hback := run_convert_bytes_arg (P := Tryd.prog) (W1.setCell ⟨g, q, none⟩ (.int .u8 ((cv ^^^ 2 ^ kb : Nat) : Int))).drew 50 5 Tryd.underlying50 Tryd.underlying5 g 0 s.size cap
  ((s.data.toList.set q (UInt8.ofNat (cv ^^^ 2 ^ kb))).map fun c => (c.toNat : Int)) (by rw [List.length_map, List.length_set, Array.length_toList]; rfl) (set_cell_readT W1 g q s.size s.data.toList _ (xor_pow_ltW hcl (by omega)) (by rw [Array.length_toList]; rfl) (by omega) HCB.out) 9 Tryd.underlying9
 rw [hback]
 rw [show strOfNums ((s.data.toList.set q (UInt8.ofNat (cv ^^^ 2 ^ kb))).map fun c => (c.toNat : Int)) = turnedT s p by unfold turnedT; rw [HQ.out, HK.out, HV.out]]
 have n0_ := Aside0.mk (below_set HB.out (j := q) (v := .int .u8 ((cv ^^^ 2 ^ kb : Nat) : Int)) hgs.out)
 clear HB
 have HB := n0_
 clear n0_
 generalize W1.setCell ⟨g, q, none⟩ (.int .u8 ((cv ^^^ 2 ^ kb : Nat) : Int)) = W2 at *
 go_wp2_with (first | (go_at_call 22; (with_reducible refine (command_Asked.calls k _ 0 ⟨#[]⟩ ⟨#[]⟩ 0 ⟨#[]⟩ ⟨#[]⟩ 0 0 0 4 _ (TabOk.below HT.out (below_drew HB.out)) AU.out).mono ?_); rintro e w7 ⟨rfl, hb⟩; have n0_ := Aside0.mk (below_step (below_drew HB.out) hb); clear HB; have HB := n0_; clear n0_ hb))
 go_ret
 exact ⟨er, bw⟩

end Go.Proofs.YtpgiagdpepkooaaDoor.P
