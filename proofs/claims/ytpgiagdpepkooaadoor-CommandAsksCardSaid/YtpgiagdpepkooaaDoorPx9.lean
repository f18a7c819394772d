-- Printed by this session's program wip/xp.py (a turned copy of the kit's printer): functions, their contracts.
import Derived.Test.YtpgiagdpepkooaaDoorPx0
import Derived.Test.YtpgiagdpepkooaaDoorPx5
import Derived.Test.YtpgiagdpepkooaaDoorPx8
namespace Go.Proofs.YtpgiagdpepkooaaDoor.P
open Go.RowKit Go.Proofs.YtpgiagdpepkooaaDoorW.PrintWords Go.Proofs.YtpgiagdpepkooaaDoorW.PrintLast Go.Proofs.YtpgiagdpepkooaaDoorW.PrintMore
attribute [local go_sem] max2_int min2_int max_two min_two max_three min_three max_four min_four   -- for this text's walks alone
set_option linter.unusedVariables false
set_option linter.unusedSimpArgs false

/-! ### crc_word: function 63 -/
def crc_word.f (a0 : Int) : Option (ByteArray) := some (strOfNums (([(a0 / 16777216) % 256, (a0 / 65536) % 256, (a0 / 256) % 256, (a0) % 256] : List Int)))
set_option maxHeartbeats 8000000 in
set_option maxRecDepth 100000 in
theorem crc_word.calls (a0 : Int) (r : ByteArray) (w : World) (h : crc_word.f a0 = some r) :
  Calls Tryd.prog 63 #[.int .u32 a0] w fun e w' => e = .returned (.string r) ∧ Below w.heap.size w w' := by
 have HB := Aside0.mk (Below.refl w.heap.size w)
 have H := h
 unfold crc_word.f at H
 clear h
 obtain ⟨y206, hy206⟩ : ∃ y_ : List Int, y_ = (([(a0 / 16777216) % 256, (a0 / 65536) % 256, (a0 / 256) % 256, (a0) % 256] : List Int)) := ⟨_, rfl⟩
 replace H : (some (strOfNums y206)) = some r := by first | (rw [hy206]; with_reducible exact H) | (have H2_ := (Option.bind_some _ _).symm.trans H; rw [hy206]; with_reducible exact H2_) | (have H2_ := (Option.bind_some _ _).symm.trans H; with_reducible exact H2_) | with_reducible exact H | (rw [hy206]; exact H) | exact H
 have Ny206 := Aside0.mk hy206
 clear hy206
 obtain rfl := Option.some.inj H
 go_enter Tryd.func63, Tryd.ntmps63
 go_wp2_with (first | ((with_reducible refine gate_dst (N := 14) rfl ?_); refine Kd.R_lit (Kd.int .u8) _ 5 ?hg (N := 14) ?hd (xs := ([(a0 / 16777216) % 256, (a0 / 65536) % 256, (a0 / 256) % 256, (a0) % 256] : List Int)) (inner := [.int .u8 ((a0 / 16777216) % 256), .int .u8 ((a0 / 65536) % 256), .int .u8 ((a0 / 256) % 256), .int .u8 ((a0) % 256)]) (ok := fun _ => True) (okp := fun _ => True) ?hr ?hp (fun _ hk => hk) trivial (Below.refl _ _) (Nat.le_refl _) (by simp) ?_; (case hd => rfl); (case hg => rfl); (case hr => first | (go_simp; done) | (go_simp; rfl)); (case hp => exact (Reps.one (show Kd.M (Kd.int .u8) _ _ _ ((a0 / 16777216) % 256) [.int .u8 ((a0 / 16777216) % 256)] from rfl) (Reps.one (show Kd.M (Kd.int .u8) _ _ _ ((a0 / 65536) % 256) [.int .u8 ((a0 / 65536) % 256)] from rfl) (Reps.one (show Kd.M (Kd.int .u8) _ _ _ ((a0 / 256) % 256) [.int .u8 ((a0 / 256) % 256)] from rfl) (Reps.one (show Kd.M (Kd.int .u8) _ _ _ ((a0) % 256) [.int .u8 ((a0) % 256)] from rfl) (Reps.none _ _)))))); intro v207 w2 ho3 hb hg_ hnew_; clear hg_ hnew_; (first | rw [← Ny206.out] at ho3 | (simp only [Int.reduceToNat] at ho3; rw [← Ny206.out] at ho3)); have HO208 := Aside0.mk (Kd.R_lower ho3 (below_size bw)); replace HB := Aside0.mk (below_step bw hb); clear hb ho3; have hcv4 := own_string (P := Tryd.prog) Tryd.underlying50 Tryd.underlying5 Tryd.underlying9 (Kd.own_of_R HO208.out)))
 go_ret
 exact ⟨er, bw⟩

/-! ### crc_More: function 64 -/
/-- What four steps make of a sum. -/
def crcStepN (s : Nat) : Nat := (s / 16) ^^^ (crcTabN.getD (s % 16) 0)
/-- What a byte makes of a sum. -/
def crcByteN (s c : Nat) : Nat := crcStepN (crcStepN (s ^^^ c))
def crcFoldN (s : Nat) (l : List UInt8) : Nat := l.foldl (fun s c => crcByteN s c.toNat) s
theorem crcTabN_lt (i : Nat) : crcTabN.getD i 0 < 4294967296 := by
 by_cases h : i < 16
 ·have : ∀ j : Fin 16, crcTabN.getD j.val 0 < 4294967296 := by decide
  exact this ⟨i, h⟩
 ·rw [List.getD_eq_getElem?_getD, List.getElem?_eq_none (by simp only [crcTabN, List.length_cons, List.length_nil]; omega)]
  decide
theorem xor_lt32 {a b : Nat} (ha : a < 4294967296) (hb : b < 4294967296) : a ^^^ b < 4294967296 := Nat.xor_lt_two_pow (n := 32) ha hb
theorem crcStepN_lt {s : Nat} (h : s < 4294967296) : crcStepN s < 4294967296 := xor_lt32 (by omega) (crcTabN_lt _)
theorem crcByteN_lt {s c : Nat} (h : s < 4294967296) (hc : c < 256) : crcByteN s c < 4294967296 := crcStepN_lt (crcStepN_lt (xor_lt32 h (by omega)))
theorem crcFoldN_lt (l : List UInt8) : ∀ {s : Nat}, s < 4294967296 → crcFoldN s l < 4294967296 := by
 induction l with
 | nil => intro s h; exact h
 | cons c l ih => intro s h; exact ih (crcByteN_lt h c.toNat_lt)
theorem crcFoldN_snoc (s : Nat) (l : List UInt8) (c : UInt8) : crcFoldN s (l ++ [c]) = crcByteN (crcFoldN s l) c.toNat := by simp [crcFoldN]
theorem take_snocD (l : List UInt8) (k : Nat) (h : k < l.length) : l.take (k + 1) = l.take k ++ [l.getD k 0] := by
 rw [List.take_succ_eq_append_getElem h]
 simp [List.getD_eq_getElem?_getD, List.getElem?_eq_getElem h]
theorem below_conv (w : World) (e : TypeId) (s : ByteArray) : Below w.heap.size w (Lib.bytesWorld w e s) :=
 ⟨rfl, rfl, rfl, by rw [Lib.bytesWorld_size]; omega, fun i hi => Lib.bytesWorld_at_old w e s i hi⟩
def crc_More.f (a0 : Int) (a1 : ByteArray) : Option (Int) := if 0 ≤ a0 ∧ a0 < 4294967296 ∧ a1.size ≤ 9223372036854775807 then some ((4294967295 ^^^ crcFoldN (4294967295 ^^^ a0.toNat) a1.data.toList : Nat) : Int) else none
set_option maxHeartbeats 2000000 in
set_option maxRecDepth 100000 in
theorem crc_More.calls (a0 : Int) (a1 : ByteArray) (r : Int) (w : World) (HT_ : TabOk w) (h : crc_More.f a0 a1 = some r) :
  Calls Tryd.prog 64 #[.int .u32 a0, .string a1] w fun e w' => e = .returned (.int .u32 r) ∧ Below w.heap.size w w' := by
 unfold crc_More.f at h
 split at h
 case isFalse => exact absurd h (by simp)
 rename_i hcnd
 obtain ⟨h0, h1, h2⟩ := hcnd
 obtain rfl := Option.some.inj h
 obtain ⟨n0, rfl⟩ : ∃ n0 : Nat, a0 = (n0 : Int) := ⟨a0.toNat, by omega⟩
 have hn0 : n0 < 4294967296 := by omega
 clear h h0 h1
 obtain ⟨b0, hb0⟩ : ∃ b : Nat, b = 4294967295 ^^^ n0 := ⟨_, rfl⟩
 have hbl : b0 < 4294967296 := by rw [hb0]; exact xor_lt32 (by omega) hn0
 have hinv : Go.bits .xor .u32 IntKind.u32.max (n0 : Int) = (b0 : Int) := by rw [hb0]; exact u32_xor_nat 4294967295 n0 (by omega) hn0
 have HB0 := Aside0.mk hb0
 clear hb0
 have hconv := Lib.run_convert_string_bytes (P := Tryd.prog) w 9 50 5 a1 Tryd.underlying9 Tryd.underlying50 Tryd.underlying5
 have HBW := Aside0.mk (below_conv w 5 a1)
 have HCB := Aside0.mk (Lib.bytesWorld_cell w 5 a1)
 have HT := Aside0.mk (TabOk.below HT_ (below_conv w 5 a1))
 generalize Lib.bytesWorld w 5 a1 = W1 at hconv HBW HCB HT
 clear HT_
 have hl : a1.data.toList.length = a1.size := by rw [Array.length_toList]; rfl
 have HL := Aside0.mk hl
 clear hl
 have hr : ((4294967295 ^^^ n0 : Nat) : Int).toNat = 4294967295 ^^^ n0 := rfl
 rw [show ((n0 : Int)).toNat = n0 from rfl, ← HB0.out]
 clear hr
 go_enter Tryd.func64, Tryd.ntmps64
 go_wp2
 go_loop [0, 12] (fun s i => ∃ (k m : Nat), k ≤ a1.size ∧ i = .int .i64 k ∧ s = .int .u32 (m : Int) ∧ m < 4294967296 ∧ Aside0 (m = crcFoldN b0 (a1.data.toList.take k))) (fun _ i => a1.size - (intOf i).toNat)
 case atStart => exact ⟨0, b0, Nat.zero_le _, rfl, rfl, hbl, ⟨by simp [crcFoldN]⟩⟩
 case round =>
  obtain ⟨k, m, hk, rfl, rfl, hm, HM⟩ := hrel
  by_cases hlt : k < a1.size
  ·have hc0 := HCB.out k hlt
   obtain ⟨c, hc⟩ : ∃ c : Nat, c = (a1.data.toList.getD k 0).toNat := ⟨_, rfl⟩
   rw [← hc] at hc0
   have hc1 : c < 256 := by rw [hc]; exact UInt8.toNat_lt _
   have HC := Aside0.mk hc
   clear hc
   obtain ⟨x1, hx1⟩ : ∃ x : Nat, x = m ^^^ c := ⟨_, rfl⟩
   have hx1l : x1 < 4294967296 := by rw [hx1]; exact xor_lt32 hm (by omega)
   have r1 : Go.bits .xor .u32 (m : Int) (c : Int) = (x1 : Int) := by rw [hx1]; exact u32_xor_nat m c hm (by omega)
   obtain ⟨n1, hn1⟩ : ∃ x : Nat, x = x1 % 16 := ⟨_, rfl⟩
   have hn1l : n1 < 16 := by omega
   have r2 : Go.bits .and .u32 (x1 : Int) 15 = (n1 : Int) := by
    rw [hn1]
    exact (u32_and_nat x1 15 hx1l (by omega)).trans (by rw [show x1 &&& 15 = x1 % 16 from Nat.and_two_pow_sub_one_eq_mod x1 4])
   obtain ⟨t1, ht1⟩ : ∃ x : Nat, x = crcTabN.getD n1 0 := ⟨_, rfl⟩
   have ht1l : t1 < 4294967296 := by rw [ht1]; exact crcTabN_lt _
   have hcell1 : W1.cell? ⟨1, n1, none⟩ = some (.int .u32 (t1 : Int)) := by rw [ht1]; exact TabOk.crc HT.out n1 hn1l
   obtain ⟨y1, hy1⟩ : ∃ x : Nat, x = (x1 / 16) ^^^ t1 := ⟨_, rfl⟩
   have hy1l : y1 < 4294967296 := by rw [hy1]; exact xor_lt32 (by omega) ht1l
   have r3 : Go.bits .xor .u32 ((x1 : Int) / 16) (t1 : Int) = (y1 : Int) := by rw [hy1]; exact u32_xor_nat (x1 / 16) t1 (by omega) ht1l
   obtain ⟨n2, hn2⟩ : ∃ x : Nat, x = y1 % 16 := ⟨_, rfl⟩
   have hn2l : n2 < 16 := by omega
   have r4 : Go.bits .and .u32 (y1 : Int) 15 = (n2 : Int) := by
    rw [hn2]
    exact (u32_and_nat y1 15 hy1l (by omega)).trans (by rw [show y1 &&& 15 = y1 % 16 from Nat.and_two_pow_sub_one_eq_mod y1 4])
   obtain ⟨t2, ht2⟩ : ∃ x : Nat, x = crcTabN.getD n2 0 := ⟨_, rfl⟩
   have ht2l : t2 < 4294967296 := by rw [ht2]; exact crcTabN_lt _
   have hcell2 : W1.cell? ⟨1, n2, none⟩ = some (.int .u32 (t2 : Int)) := by rw [ht2]; exact TabOk.crc HT.out n2 hn2l
   obtain ⟨y2, hy2⟩ : ∃ x : Nat, x = (y1 / 16) ^^^ t2 := ⟨_, rfl⟩
   have hy2l : y2 < 4294967296 := by rw [hy2]; exact xor_lt32 (by omega) ht2l
   have r5 : Go.bits .xor .u32 ((y1 : Int) / 16) (t2 : Int) = (y2 : Int) := by rw [hy2]; exact u32_xor_nat (y1 / 16) t2 (by omega) ht2l
   have HF : Aside0 (y2 = crcFoldN b0 (a1.data.toList.take (k + 1))) := ⟨by
    rw [take_snocD _ k (by rw [HL.out]; exact hlt), crcFoldN_snoc, ← HM.out, ← HC.out, hy2, ht2, hn2, hy1, ht1, hn1, hx1]
    rfl⟩
   have hcm : (c : Int) % 4294967296 = (c : Int) := by omega
   clear hx1 hn1 ht1 hy1 hn2 ht2 hy2
   go_wp2
   go_round
   case rel => exact ⟨k + 1, y2, by omega, by go_num, rfl, hy2l, HF⟩
   case measure => simp [intOf]; omega
  ·obtain rfl : k = a1.size := by omega
   have hfin : Go.bits .xor .u32 IntKind.u32.max (m : Int) = ((4294967295 ^^^ m : Nat) : Int) := u32_xor_nat 4294967295 m (by omega) hm
   go_wp2
   go_ret
   exact ⟨congrArg (fun x : Nat => Ending.returned (.int .u32 ((4294967295 ^^^ x : Nat) : Int))) (HM.out.trans (by rw [← HL.out, List.take_length])), HBW.out⟩

/-! ### crc_Sum: function 65 -/
def crc_Sum.f (a0 : ByteArray) : Option (Int) := (crc_More.f 0 a0).bind fun t209 => (some t209)
set_option maxHeartbeats 8000000 in
set_option maxRecDepth 100000 in
theorem crc_Sum.calls (a0 : ByteArray) (r : Int) (w : World) (HT_ : TabOk w) (h : crc_Sum.f a0 = some r) :
  Calls Tryd.prog 65 #[.string a0] w fun e w' => e = .returned (.int .u32 r) ∧ Below w.heap.size w w' := by
 have HT := Aside0.mk HT_
 clear HT_
 have HB := Aside0.mk (Below.refl w.heap.size w)
 have H : ((crc_More.f 0 a0).bind fun t209 => (some t209)) = some r := h
 clear h
 replace H := Option.bind_eq_some_iff.mp H
 obtain ⟨t209, A20, H⟩ := H
 have A2 := Aside0.mk A20
 clear A20
 obtain rfl := Option.some.inj H
 go_enter Tryd.func65, Tryd.ntmps65
 go_wp2_with (first | ((with_reducible refine gate_callee (f := 64) rfl ?_); refine goesL_ (some 4) rfl rfl Tryd.func64 (by kernel_rfl) rfl #[.int .u32 0, .string a0] rfl am ?_; (with_reducible refine (crc_More.calls 0 a0 t209 _ tbk A2.out).mono ?_); rintro e w3 ⟨rfl, hb⟩; refine ⟨_, rfl, ?_⟩; replace HB := Aside0.mk (below_step bw hb); (try clear hb)))
 go_ret
 exact ⟨er, bw⟩

/-! ### crc_Frame: function 47 -/
def crc_Frame.f (a0 : ByteArray) : Option (ByteArray × Int) := if (a0.size : Int) > 400000 then (some ((⟨#[]⟩ : ByteArray), 3)) else ((crc_word.f (((a0.size : Int)) % 4294967296)).bind fun t210 => ((crc_Sum.f t210).bind fun t211 => ((crc_More.f t211 a0).bind fun t212 => ((crc_word.f t212).bind fun t213 => (if t210.size + t213.size ≤ 9223372036854775807 then (if (t210 ++ t213).size + a0.size ≤ 9223372036854775807 then (some ((t210 ++ t213) ++ a0, 0)) else (none)) else (none))))))
set_option maxHeartbeats 8000000 in
set_option maxRecDepth 100000 in
theorem crc_Frame.calls (a0 : ByteArray) (r1 : ByteArray) (r2 : Int) (w : World) (HT_ : TabOk w) (h : crc_Frame.f a0 = some (r1, r2)) :
  Calls Tryd.prog 47 #[.string a0] w fun e w' => e = .returned (.tuple #[.string r1, .int .i64 r2]) ∧ Below w.heap.size w w' := by
 have HT := Aside0.mk HT_
 clear HT_
 have HB := Aside0.mk (Below.refl w.heap.size w)
 have H := h
 unfold crc_Frame.f at H
 clear h
 by_cases c2 : (a0.size : Int) > 400000
 ·rw [if_pos c2] at H
  have c2b0 : decide (400000 < (a0.size : Int)) = true := decide_eq_true c2
  have c2b1 : decide (400000 < a0.size) = true := decide_eq_true (by omega)
  clear c2
  simp only [Option.some.injEq, Prod.mk.injEq] at H
  obtain ⟨rfl, rfl⟩ := H
  go_enter Tryd.func47, Tryd.ntmps47
  go_wp2
  go_ret2
  exact ⟨er, bw⟩
 rw [if_neg c2] at H
 have c2b0 : decide (400000 < (a0.size : Int)) = false := decide_eq_false c2
 have c2b1 : decide (400000 < a0.size) = false := decide_eq_false (by omega)
 clear c2
 replace H := Option.bind_eq_some_iff.mp H
 obtain ⟨t210, A30, H⟩ := H
 have A3 := Aside0.mk A30
 clear A30
 replace H := Option.bind_eq_some_iff.mp H
 obtain ⟨t211, A40, H⟩ := H
 have A4 := Aside0.mk A40
 clear A40
 replace H := Option.bind_eq_some_iff.mp H
 obtain ⟨t212, A50, H⟩ := H
 have A5 := Aside0.mk A50
 clear A50
 replace H := Option.bind_eq_some_iff.mp H
 obtain ⟨t213, A60, H⟩ := H
 have A6 := Aside0.mk A60
 clear A60
 obtain ⟨c7, H⟩ := its H
 have c7b0 := eq_true c7
 have c7b1 : decide (t210.size + t213.size ≤ 9223372036854775807) = true := decide_eq_true c7
 try have c7b2 : (9223372036854775807 < t210.size + t213.size) = False := eq_false (Nat.not_lt.2 c7)
 obtain ⟨c8, H⟩ := its H
 have c8b0 := eq_true c8
 have c8b1 : decide ((t210 ++ t213).size + a0.size ≤ 9223372036854775807) = true := decide_eq_true c8
 try have c8b2 : (9223372036854775807 < (t210 ++ t213).size + a0.size) = False := eq_false (Nat.not_lt.2 c8)
 simp only [Option.some.injEq, Prod.mk.injEq] at H
 obtain ⟨rfl, rfl⟩ := H
 go_enter Tryd.func47, Tryd.ntmps47
 go_wp2_with (first | ((with_reducible refine gate_callee (f := 63) rfl ?_); refine goesL_ (some 11) rfl rfl Tryd.func63 (by kernel_rfl) rfl #[.int .u32 (((a0.size : Int)) % 4294967296)] rfl am ?_; (with_reducible refine (crc_word.calls (((a0.size : Int)) % 4294967296) t210 _ A3.out).mono ?_); rintro e w9 ⟨rfl, hb⟩; refine ⟨_, rfl, ?_⟩; replace HB := Aside0.mk (below_step bw hb); (try clear hb)) | ((with_reducible refine gate_callee (f := 65) rfl ?_); refine goesL_ (some 14) rfl rfl Tryd.func65 (by kernel_rfl) rfl #[.string t210] rfl am ?_; (with_reducible refine (crc_Sum.calls t210 t211 _ tbk A4.out).mono ?_); rintro e w10 ⟨rfl, hb⟩; refine ⟨_, rfl, ?_⟩; replace HB := Aside0.mk (below_step bw hb); (try clear hb)) | ((with_reducible refine gate_callee (f := 64) rfl ?_); refine goesL_ (some 16) rfl rfl Tryd.func64 (by kernel_rfl) rfl #[.int .u32 t211, .string a0] rfl am ?_; (with_reducible refine (crc_More.calls t211 a0 t212 _ tbk A5.out).mono ?_); rintro e w11 ⟨rfl, hb⟩; refine ⟨_, rfl, ?_⟩; replace HB := Aside0.mk (below_step bw hb); (try clear hb)) | ((with_reducible refine gate_callee (f := 63) rfl ?_); refine goesL_ (some 17) rfl rfl Tryd.func63 (by kernel_rfl) rfl #[.int .u32 t212] rfl am ?_; (with_reducible refine (crc_word.calls t212 t213 _ A6.out).mono ?_); rintro e w12 ⟨rfl, hb⟩; refine ⟨_, rfl, ?_⟩; replace HB := Aside0.mk (below_step bw hb); (try clear hb)))
 go_ret2
 exact ⟨er, bw⟩

/-! ### command_Request: function 20 -/
def command_Request.f (k : Nat) (a0_0 : Int) (a0_1 : ByteArray) (a0_2 : ByteArray) (a0_3 : Int) (a0_4 : ByteArray) (a0_5 : ByteArray) (a0_6 : Int) (a0_7 : Int) (a0_8 : Int) : Option (ByteArray × Int) := (command_Encode.f k a0_0 a0_1 a0_2 a0_3 a0_4 a0_5 a0_6 a0_7 a0_8).bind fun bt215 => (if bt215.2 = 0 then (if a0_7 = 0 then ((crc_Frame.f bt215.1).bind fun bt217 => (some (bt217.1, bt217.2))) else (some ((⟨#[]⟩ : ByteArray), 1))) else (some ((⟨#[]⟩ : ByteArray), 1)))
set_option maxHeartbeats 8000000 in
set_option maxRecDepth 100000 in
theorem command_Request.calls (k : Nat) (a0_0 : Int) (a0_1 : ByteArray) (a0_2 : ByteArray) (a0_3 : Int) (a0_4 : ByteArray) (a0_5 : ByteArray) (a0_6 : Int) (a0_7 : Int) (a0_8 : Int) (r1 : ByteArray) (r2 : Int) (w : World) (HT_ : TabOk w) (h : command_Request.f k a0_0 a0_1 a0_2 a0_3 a0_4 a0_5 a0_6 a0_7 a0_8 = some (r1, r2)) :
  Calls Tryd.prog 20 #[.agg #[.int .i64 a0_0, .string a0_1, .string a0_2, .int .i64 a0_3, .string a0_4, .string a0_5, .int .i64 a0_6, .int .i64 a0_7, .int .i64 a0_8]] w fun e w' => e = .returned (.tuple #[.string r1, .int .i64 r2]) ∧ Below w.heap.size w w' := by
 have HT := Aside0.mk HT_
 clear HT_
 have hu23 := Tryd.underlying23
 have HB := Aside0.mk (Below.refl w.heap.size w)
 have H := h
 unfold command_Request.f at H
 clear h
 replace H := Option.bind_eq_some_iff.mp H
 obtain ⟨⟨t215, t216⟩, A20, H⟩ := H
 replace H : (if t216 = 0 then (if a0_7 = 0 then ((crc_Frame.f t215).bind fun bt217 => (some (bt217.1, bt217.2))) else (some ((⟨#[]⟩ : ByteArray), 1))) else (some ((⟨#[]⟩ : ByteArray), 1))) = some (r1, r2) := H
 have A2 := Aside0.mk A20
 clear A20
 by_cases c3 : t216 = 0; rotate_left
 ·rw [if_neg c3] at H
  have c3b0 : (t216 == 0) = false := beq_eq_false_iff_ne.mpr c3
  have c3b1 : (t216 != 0) = true := bne_iff_ne.mpr c3
  simp only [Option.some.injEq, Prod.mk.injEq] at H
  obtain ⟨rfl, rfl⟩ := H
  go_enter Tryd.func20, Tryd.ntmps20
  go_wp2_with (first | ((with_reducible refine gate_dst (N := 1) rfl ?_); refine box_event ?hg (N := 1) ?hd (cs := #[.int .i64 a0_0, .string a0_1, .string a0_2, .int .i64 a0_3, .string a0_4, .string a0_5, .int .i64 a0_6, .int .i64 a0_7, .int .i64 a0_8]) (t := 23) ?hr ?_; (case hd => rfl); (case hg => rfl); (case hr => first | (go_simp; done) | (go_simp; rfl)); intro ab hg w15 hbox hb; have aa := Aside0.mk (hbox); have ac := Aside0.mk ((g1 hg bw : w.heap.size ≤ ab)); have ad := Aside0.mk ((g1 hg bw : w.heap.size ≤ ab)); replace HB := Aside0.mk (below_step bw hb); clear hb hbox hg; obtain ⟨hcz16_0, hcz16_1, hcz16_2, hcz16_3, hcz16_4, hcz16_5, hcz16_6, hcz16_7, hcz16_8, hfz16_0, hfz16_1, hfz16_2, hfz16_3, hfz16_4, hfz16_5, hfz16_6, hfz16_7, hfz16_8⟩ := bx9 aa.out) | ((with_reducible refine gate_callee (f := 12) rfl ?_); refine goesL_ (some 8) rfl rfl Tryd.func12 (by kernel_rfl) rfl #[.agg #[.int .i64 a0_0, .string a0_1, .string a0_2, .int .i64 a0_3, .string a0_4, .string a0_5, .int .i64 a0_6, .int .i64 a0_7, .int .i64 a0_8]] rfl am ?_; (with_reducible refine (command_Encode.calls k a0_0 a0_1 a0_2 a0_3 a0_4 a0_5 a0_6 a0_7 a0_8 t215 t216 _ tbk A2.out).mono ?_); rintro e w17 ⟨rfl, hb⟩; refine ⟨_, rfl, ?_⟩; replace aa := Aside0.mk (nb aa.out hb); replace HB := Aside0.mk (below_step bw hb); (try clear hb)))
  go_ret2
  exact ⟨er, bw⟩
 rw [if_pos c3] at H
 have c3b0 : (t216 == 0) = true := beq_iff_eq.mpr c3
 have c3b1 : (t216 != 0) = false := bne_eq_false_iff_eq.mpr c3
 clear c3
 by_cases c4 : a0_7 = 0; rotate_left
 ·rw [if_neg c4] at H
  have c4b0 : (a0_7 == 0) = false := beq_eq_false_iff_ne.mpr c4
  have c4b1 : (a0_7 != 0) = true := bne_iff_ne.mpr c4
  simp only [Option.some.injEq, Prod.mk.injEq] at H
  obtain ⟨rfl, rfl⟩ := H
  go_enter Tryd.func20, Tryd.ntmps20
  go_wp2_with (first | ((with_reducible refine gate_dst (N := 1) rfl ?_); refine box_event ?hg (N := 1) ?hd (cs := #[.int .i64 a0_0, .string a0_1, .string a0_2, .int .i64 a0_3, .string a0_4, .string a0_5, .int .i64 a0_6, .int .i64 a0_7, .int .i64 a0_8]) (t := 23) ?hr ?_; (case hd => rfl); (case hg => rfl); (case hr => first | (go_simp; done) | (go_simp; rfl)); intro ab hg w11 hbox hb; have aa := Aside0.mk (hbox); have ac := Aside0.mk ((g1 hg bw : w.heap.size ≤ ab)); have ad := Aside0.mk ((g1 hg bw : w.heap.size ≤ ab)); replace HB := Aside0.mk (below_step bw hb); clear hb hbox hg; obtain ⟨hcz12_0, hcz12_1, hcz12_2, hcz12_3, hcz12_4, hcz12_5, hcz12_6, hcz12_7, hcz12_8, hfz12_0, hfz12_1, hfz12_2, hfz12_3, hfz12_4, hfz12_5, hfz12_6, hfz12_7, hfz12_8⟩ := bx9 aa.out) | ((with_reducible refine gate_callee (f := 12) rfl ?_); refine goesL_ (some 8) rfl rfl Tryd.func12 (by kernel_rfl) rfl #[.agg #[.int .i64 a0_0, .string a0_1, .string a0_2, .int .i64 a0_3, .string a0_4, .string a0_5, .int .i64 a0_6, .int .i64 a0_7, .int .i64 a0_8]] rfl am ?_; (with_reducible refine (command_Encode.calls k a0_0 a0_1 a0_2 a0_3 a0_4 a0_5 a0_6 a0_7 a0_8 t215 t216 _ tbk A2.out).mono ?_); rintro e w13 ⟨rfl, hb⟩; refine ⟨_, rfl, ?_⟩; replace aa := Aside0.mk (nb aa.out hb); replace HB := Aside0.mk (below_step bw hb); (try clear hb); obtain ⟨hcz14_0, hcz14_1, hcz14_2, hcz14_3, hcz14_4, hcz14_5, hcz14_6, hcz14_7, hcz14_8, hfz14_0, hfz14_1, hfz14_2, hfz14_3, hfz14_4, hfz14_5, hfz14_6, hfz14_7, hfz14_8⟩ := bx9 aa.out))
  go_ret2
  exact ⟨er, bw⟩
 rw [if_pos c4] at H
 have c4b0 : (a0_7 == 0) = true := beq_iff_eq.mpr c4
 have c4b1 : (a0_7 != 0) = false := bne_eq_false_iff_eq.mpr c4
 clear c4
 replace H := Option.bind_eq_some_iff.mp H
 obtain ⟨⟨t217, t218⟩, A50, H⟩ := H
 replace H : (some (t217, t218)) = some (r1, r2) := H
 have A5 := Aside0.mk A50
 clear A50
 simp only [Option.some.injEq, Prod.mk.injEq] at H
 obtain ⟨rfl, rfl⟩ := H
 go_enter Tryd.func20, Tryd.ntmps20
 go_wp2_with (first | ((with_reducible refine gate_dst (N := 1) rfl ?_); refine box_event ?hg (N := 1) ?hd (cs := #[.int .i64 a0_0, .string a0_1, .string a0_2, .int .i64 a0_3, .string a0_4, .string a0_5, .int .i64 a0_6, .int .i64 a0_7, .int .i64 a0_8]) (t := 23) ?hr ?_; (case hd => rfl); (case hg => rfl); (case hr => first | (go_simp; done) | (go_simp; rfl)); intro ab hg w6 hbox hb; have aa := Aside0.mk (hbox); have ac := Aside0.mk ((g1 hg bw : w.heap.size ≤ ab)); have ad := Aside0.mk ((g1 hg bw : w.heap.size ≤ ab)); replace HB := Aside0.mk (below_step bw hb); clear hb hbox hg; obtain ⟨hcz7_0, hcz7_1, hcz7_2, hcz7_3, hcz7_4, hcz7_5, hcz7_6, hcz7_7, hcz7_8, hfz7_0, hfz7_1, hfz7_2, hfz7_3, hfz7_4, hfz7_5, hfz7_6, hfz7_7, hfz7_8⟩ := bx9 aa.out) | ((with_reducible refine gate_callee (f := 12) rfl ?_); refine goesL_ (some 8) rfl rfl Tryd.func12 (by kernel_rfl) rfl #[.agg #[.int .i64 a0_0, .string a0_1, .string a0_2, .int .i64 a0_3, .string a0_4, .string a0_5, .int .i64 a0_6, .int .i64 a0_7, .int .i64 a0_8]] rfl am ?_; (with_reducible refine (command_Encode.calls k a0_0 a0_1 a0_2 a0_3 a0_4 a0_5 a0_6 a0_7 a0_8 t215 t216 _ tbk A2.out).mono ?_); rintro e w8 ⟨rfl, hb⟩; refine ⟨_, rfl, ?_⟩; replace aa := Aside0.mk (nb aa.out hb); replace HB := Aside0.mk (below_step bw hb); (try clear hb); obtain ⟨hcz9_0, hcz9_1, hcz9_2, hcz9_3, hcz9_4, hcz9_5, hcz9_6, hcz9_7, hcz9_8, hfz9_0, hfz9_1, hfz9_2, hfz9_3, hfz9_4, hfz9_5, hfz9_6, hfz9_7, hfz9_8⟩ := bx9 aa.out) | ((with_reducible refine gate_callee (f := 47) rfl ?_); refine goesL_ (some 19) rfl rfl Tryd.func47 (by kernel_rfl) rfl #[.string t215] rfl am ?_; (with_reducible refine (crc_Frame.calls t215 t217 t218 _ tbk A5.out).mono ?_); rintro e w10 ⟨rfl, hb⟩; refine ⟨_, rfl, ?_⟩; replace aa := Aside0.mk (nb aa.out hb); replace HB := Aside0.mk (below_step bw hb); (try clear hb)))
 go_ret2
 exact ⟨er, bw⟩

/-! ### crc_number: function 80 -/
def crc_number.f (a0 : ByteArray) : Option (Int) := if 0 < (a0.size : Int) then (if 1 < (a0.size : Int) then (if 2 < (a0.size : Int) then (if 3 < (a0.size : Int) then (some (Go.bits .or .u32 (Go.bits .or .u32 (Go.bits .or .u32 ((((bt a0 0) % 4294967296) * 16777216) % 4294967296) ((((bt a0 1) % 4294967296) * 65536) % 4294967296)) ((((bt a0 2) % 4294967296) * 256) % 4294967296)) ((bt a0 3) % 4294967296))) else (none)) else (none)) else (none)) else (none)
set_option maxHeartbeats 8000000 in
set_option maxRecDepth 100000 in
theorem crc_number.calls0 (a0 : ByteArray) (r : Int) (w : World) (h : crc_number.f a0 = some r) :
  Calls Tryd.prog 80 #[.string a0] w fun e w' => e = .returned (.int .u32 r) ∧ Drawn0 w w' := by
 have H := h
 unfold crc_number.f at H
 clear h
 obtain ⟨c2, H⟩ := its H
 have c2b0 : decide (0 < (a0.size : Int)) = true := decide_eq_true c2
 have c2b1 : decide (0 < a0.size) = true := decide_eq_true (by omega)
 clear c2
 obtain ⟨c4, H⟩ := its H
 have c4b0 : decide (1 < (a0.size : Int)) = true := decide_eq_true c4
 have c4b1 : decide (1 < a0.size) = true := decide_eq_true (by omega)
 clear c4
 obtain ⟨c6, H⟩ := its H
 have c6b0 : decide (2 < (a0.size : Int)) = true := decide_eq_true c6
 have c6b1 : decide (2 < a0.size) = true := decide_eq_true (by omega)
 clear c6
 obtain ⟨c8, H⟩ := its H
 have c8b0 : decide (3 < (a0.size : Int)) = true := decide_eq_true c8
 have c8b1 : decide (3 < a0.size) = true := decide_eq_true (by omega)
 clear c8
 obtain rfl := Option.some.inj H
 have p3 : 0 ≤ (0 : Int) := (by omega)
 have q3 : 0 < a0.size := (by have : (0 : Int) < (a0.size : Int) := od; omega)
 have hx3 : ∀ h : 0 < a0.size, ((a0[0]'h).toNat : Int) = bt a0 0 := bt_at a0 0
 clear p3
 have qi3 : (0 < (a0.size : Int)) = True := eq_true (od)
 replace q3 := eq_true q3
 have p5 : 0 ≤ (1 : Int) := (by omega)
 have q5 : 1 < a0.size := (by have : (1 : Int) < (a0.size : Int) := od; omega)
 have hx5 : ∀ h : 1 < a0.size, ((a0[1]'h).toNat : Int) = bt a0 1 := bt_at a0 1
 clear p5
 have qi5 : (1 < (a0.size : Int)) = True := eq_true (od)
 replace q5 := eq_true q5
 have p7 : 0 ≤ (2 : Int) := (by omega)
 have q7 : 2 < a0.size := (by have : (2 : Int) < (a0.size : Int) := od; omega)
 have hx7 : ∀ h : 2 < a0.size, ((a0[2]'h).toNat : Int) = bt a0 2 := bt_at a0 2
 clear p7
 have qi7 : (2 < (a0.size : Int)) = True := eq_true (od)
 replace q7 := eq_true q7
 have p9 : 0 ≤ (3 : Int) := (by omega)
 have q9 : 3 < a0.size := (by have : (3 : Int) < (a0.size : Int) := od; omega)
 have hx9 : ∀ h : 3 < a0.size, ((a0[3]'h).toNat : Int) = bt a0 3 := bt_at a0 3
 clear p9
 have qi9 : (3 < (a0.size : Int)) = True := eq_true (od)
 replace q9 := eq_true q9
 go_enter Tryd.func80, Tryd.ntmps80
 go_wp2
 repeat (go_quiet (fail); try go_wp2)
 go_ret
 exact ⟨by first | rfl | (simp; done) | (simp [*]; done), by repeat (first | exact Drawn0.refl _ | apply Drawn0.step)⟩
theorem crc_number.calls (a0 : ByteArray) (r : Int) (w : World) (h : crc_number.f a0 = some r) :
  Calls Tryd.prog 80 #[.string a0] w fun e w' => e = .returned (.int .u32 r) ∧ Below w.heap.size w w' :=
 (crc_number.calls0 a0 r w h).mono fun e w' hh => ⟨hh.1, hh.2.below⟩

/-! ### crc_Take: function 68 -/
def crc_Take.f (a0 : ByteArray) : Option (ByteArray × Int × Int) := if (a0.size : Int) < 4 then (some ((⟨#[]⟩ : ByteArray), 0, 2)) else ((crc_number.f a0).bind fun t219 => (if t219 > 400000 then (some ((⟨#[]⟩ : ByteArray), 0, 3)) else (if (IntKind.u64.wrap ((a0.size : Int))) < (IntKind.u64.wrap (8 + (IntKind.u64.wrap (t219)))) then (some ((⟨#[]⟩ : ByteArray), 0, 2)) else (if 8 ≤ ((8 + t219) % 4294967296) then (if ((8 + t219) % 4294967296) ≤ (a0.size : Int) then (if 0 ≤ 4 then (if 4 ≤ (a0.size : Int) then ((crc_Sum.f (a0.extract 0 4)).bind fun t220 => ((crc_More.f t220 (a0.extract 8 (((8 + t219) % 4294967296) : Int).toNat)).bind fun t221 => ((crc_number.f (a0.extract 4 a0.size)).bind fun t222 => (if t221 = t222 then (some (a0.extract 8 (((8 + t219) % 4294967296) : Int).toNat, wrap64 (8 + (wrap64 (t219))), 0)) else (some ((⟨#[]⟩ : ByteArray), 0, 4)))))) else (none)) else (none)) else (none)) else (none)))))
def crc_Take.T9 : Bool × List (List Nat × List Nat) := (true, [([], []), ([0], [0]), ([1], [1]), ([], []), ([2, 3, 2], [2, 3]), ([], []), ([5], [5]), ([6, 4], [6]), ([4, 7], [4, 7])])
def crc_Take.B9 : List Nat := [0, 1, 3, 0, 15, 0, 32, 127, 255]
theorem crc_Take.tab9 : rtab .any (opsOf Tryd.f68 9) = crc_Take.T9 := by kernel_rfl
theorem crc_Take.bits9 : waitsOk crc_Take.T9.2 crc_Take.B9 = true := by kernel_rfl
set_option maxHeartbeats 8000000 in
set_option maxRecDepth 100000 in
theorem crc_Take.calls (a0 : ByteArray) (r1 : ByteArray) (r2 : Int) (r3 : Int) (w : World) (HT_ : TabOk w) (h : crc_Take.f a0 = some (r1, r2, r3)) :
  Calls Tryd.prog 68 #[.string a0] w fun e w' => e = .returned (.tuple #[.string r1, .int .i64 r2, .int .i64 r3]) ∧ Below w.heap.size w w' := by
 have HT := Aside0.mk HT_
 clear HT_
 have HB := Aside0.mk (Below.refl w.heap.size w)
 have H := h
 unfold crc_Take.f at H
 clear h
 by_cases c2 : (a0.size : Int) < 4
 ·rw [if_pos c2] at H
  have c2b0 : decide ((a0.size : Int) < 4) = true := decide_eq_true c2
  have c2b1 : decide (a0.size < 4) = true := decide_eq_true (by omega)
  clear c2
  simp only [Option.some.injEq, Prod.mk.injEq] at H
  obtain ⟨rfl, rfl, rfl⟩ := H
  go_enter Tryd.func68, Tryd.ntmps68
  go_wp2
  go_ret3
  exact ⟨er, bw⟩
 rw [if_neg c2] at H
 have c2b0 : decide ((a0.size : Int) < 4) = false := decide_eq_false c2
 have c2b1 : decide (a0.size < 4) = false := decide_eq_false (by omega)
 clear c2
 replace H := Option.bind_eq_some_iff.mp H
 obtain ⟨t219, A30, H⟩ := H
 have A3 := Aside0.mk A30
 clear A30
 by_cases c4 : t219 > 400000
 ·rw [if_pos c4] at H
  have c4b0 : decide (400000 < t219) = true := decide_eq_true c4
  clear c4
  simp only [Option.some.injEq, Prod.mk.injEq] at H
  obtain ⟨rfl, rfl, rfl⟩ := H
  go_enter Tryd.func68, Tryd.ntmps68
  go_wp2_with (first | ((with_reducible refine gate_callee (f := 80) rfl ?_); refine goesL_ (some 10) rfl rfl Tryd.func80 (by kernel_rfl) rfl #[.string a0] rfl am ?_; (with_reducible refine (crc_number.calls a0 t219 _ A3.out).mono ?_); rintro e w5 ⟨rfl, hb⟩; refine ⟨_, rfl, ?_⟩; replace HB := Aside0.mk (below_step bw hb); (try clear hb)))
  go_ret3
  exact ⟨er, bw⟩
 rw [if_neg c4] at H
 have c4b0 : decide (400000 < t219) = false := decide_eq_false c4
 clear c4
 by_cases c6 : (IntKind.u64.wrap ((a0.size : Int))) < (IntKind.u64.wrap (8 + (IntKind.u64.wrap (t219))))
 ·rw [if_pos c6] at H
  have c6b0 : decide ((IntKind.u64.wrap ((a0.size : Int))) < (IntKind.u64.wrap (8 + (IntKind.u64.wrap (t219))))) = true := decide_eq_true c6
  clear c6
  simp only [Option.some.injEq, Prod.mk.injEq] at H
  obtain ⟨rfl, rfl, rfl⟩ := H
  go_enter Tryd.func68, Tryd.ntmps68
  go_wp2_with (first | ((with_reducible refine gate_callee (f := 80) rfl ?_); refine goesL_ (some 10) rfl rfl Tryd.func80 (by kernel_rfl) rfl #[.string a0] rfl am ?_; (with_reducible refine (crc_number.calls a0 t219 _ A3.out).mono ?_); rintro e w7 ⟨rfl, hb⟩; refine ⟨_, rfl, ?_⟩; replace HB := Aside0.mk (below_step bw hb); (try clear hb)))
  go_ret3
  exact ⟨er, bw⟩
 rw [if_neg c6] at H
 have c6b0 : decide ((IntKind.u64.wrap ((a0.size : Int))) < (IntKind.u64.wrap (8 + (IntKind.u64.wrap (t219))))) = false := decide_eq_false c6
 clear c6
 obtain ⟨c8, H⟩ := its H
 have c8b0 := eq_true c8
 have c8b1 : decide (8 ≤ ((8 + t219) % 4294967296)) = true := decide_eq_true c8
 obtain ⟨c9, H⟩ := its H
 have c9b0 := eq_true c9
 have c9b1 : decide (((8 + t219) % 4294967296) ≤ (a0.size : Int)) = true := decide_eq_true c9
 obtain ⟨c10, H⟩ := its H
 have c10b0 := eq_true c10
 have c10b1 : decide (0 ≤ 4) = true := decide_eq_true c10
 clear c10
 obtain ⟨c11, H⟩ := its H
 have c11b0 := eq_true c11
 have c11b1 : decide (4 ≤ (a0.size : Int)) = true := decide_eq_true c11
 clear c11
 replace H := Option.bind_eq_some_iff.mp H
 obtain ⟨t220, A120, H⟩ := H
 have A12 := Aside0.mk A120
 clear A120
 replace H := Option.bind_eq_some_iff.mp H
 obtain ⟨t221, A130, H⟩ := H
 have A13 := Aside0.mk A130
 clear A130
 have c14b0 := eq_true (od : 4 ≤ (a0.size : Int))
 replace H := Option.bind_eq_some_iff.mp H
 obtain ⟨t222, A150, H⟩ := H
 have A15 := Aside0.mk A150
 clear A150
 have HhZ := Aside0.mk H
 clear H
 go_enter Tryd.func68, Tryd.ntmps68
 try go_wp2_with (first | ((with_reducible refine gate_callee (f := 80) rfl ?_); refine goesL_ (some 10) rfl rfl Tryd.func80 (by kernel_rfl) rfl #[.string a0] rfl am ?_; (with_reducible refine (crc_number.calls a0 t219 _ A3.out).mono ?_); rintro e w17 ⟨rfl, hb⟩; refine ⟨_, rfl, ?_⟩; replace HB := Aside0.mk (below_step bw hb); (try clear hb)))
 replace HB := Aside0.mk (below_drew1 HB.out)
 refine start_ (n := 9) (S := fun w' => True) (ds := []) (bz 9 0) (by kernel_rfl) rfl rfl trivial (fun hHeld => ?_); refine with_tabW crc_Take.tab9 crc_Take.bits9 (fun HT_ HW_ => ?_)
 generalize w17.drew = w18 at HB hHeld ⊢
 refine pu_ 0 (some 24) (bz 9 1) HT_.out ?_
 refine pu_ 1 (some 25) (bz 9 3) HT_.out ?_
 refine pu_ 3 (some 27) (bz 9 11) HT_.out ?_
 refine pu_ 5 (some 29) (bz 9 43) HT_.out ?_
 refine pu_ 6 (some 30) (bz 9 107) HT_.out ?_
 refine one_ (i := 2) (N := some 26) (bz 9 111) rfl rfl (one_of HT_.out (by kernel_rfl)) (by decide) (fun K hK => ?_)
 refine goes_ Tryd.func65 (by kernel_rfl) rfl #[.string (a0.extract 0 4)] (by rfl) rfl rfl am ?_
 with_reducible refine (crc_Sum.calls (a0.extract 0 4) t220 _ tbk A12.out).mono ?_
 rintro e w19 ⟨rfl, hb⟩
 refine ⟨_, rfl, ?_⟩
 replace HB := Aside0.mk (below_step bw hb)
 (try clear hb)
 (try clear hb2)
 (try clear hk)
 (try clear hi)
 refine hK.out _ _ trivial (fun hHeld => ?_)
 clear hK K
 refine norm_ (a' := ?_) ?_ ?_
 rotate_left
 ·show Act.put _ (some 26) _ = _
  simp only [Act.put, sl1, sl2, sl3, i64_w, i32_w]
  rfl
 refine one_ (i := 4) (N := some 28) (bz 9 127) rfl rfl (one_of HT_.out (by kernel_rfl)) (by decide) (fun K hK => ?_)
 refine goes_ Tryd.func64 (by kernel_rfl) rfl #[.int .u32 t220, .string (a0.extract 8 (((8 + t219) % 4294967296) : Int).toNat)] (by rfl) rfl rfl am ?_
 with_reducible refine (crc_More.calls t220 (a0.extract 8 (((8 + t219) % 4294967296) : Int).toNat) t221 _ tbk A13.out).mono ?_
 rintro e w20 ⟨rfl, hb⟩
 refine ⟨_, rfl, ?_⟩
 replace HB := Aside0.mk (below_step bw hb)
 (try clear hb)
 (try clear hb2)
 (try clear hk)
 (try clear hi)
 refine hK.out _ _ trivial (fun hHeld => ?_)
 clear hK K
 refine norm_ (a' := ?_) ?_ ?_
 rotate_left
 ·show Act.put _ (some 28) _ = _
  simp only [Act.put, sl1, sl2, sl3, i64_w, i32_w]
  rfl
 refine one_ (i := 7) (N := some 31) (bz 9 255) rfl rfl (one_of HT_.out (by kernel_rfl)) (by decide) (fun K hK => ?_)
 refine goes_ Tryd.func80 (by kernel_rfl) rfl #[.string (a0.extract 4 a0.size)] (by rfl) rfl rfl am ?_
 with_reducible refine (crc_number.calls (a0.extract 4 a0.size) t222 _ A15.out).mono ?_
 rintro e w21 ⟨rfl, hb⟩
 refine ⟨_, rfl, ?_⟩
 replace HB := Aside0.mk (below_step bw hb)
 (try clear hb)
 (try clear hb2)
 (try clear hk)
 (try clear hi)
 refine hK.out _ _ trivial (fun hHeld => ?_)
 clear hK K
 refine norm_ (a' := ?_) ?_ ?_
 rotate_left
 ·show Act.put _ (some 31) _ = _
  simp only [Act.put, sl1, sl2, sl3, i64_w, i32_w]
  rfl
 refine pu_ 8 (some 32) (bz 9 511) HT_.out ?_
 refine done_ (done_of HT_.out (by kernel_rfl)) ?_
 have H := HhZ.out
 clear HhZ
 by_cases c16 : t221 = t222; rotate_left
 ·rw [if_neg c16] at H
  have c16b0 : (t221 == t222) = false := beq_eq_false_iff_ne.mpr c16
  have c16b1 : (t221 != t222) = true := bne_iff_ne.mpr c16
  simp only [Option.some.injEq, Prod.mk.injEq] at H
  obtain ⟨rfl, rfl, rfl⟩ := H
  try go_wp2
  go_ret3
  exact ⟨er, bw⟩
 rw [if_pos c16] at H
 have c16b0 : (t221 == t222) = true := beq_iff_eq.mpr c16
 have c16b1 : (t221 != t222) = false := bne_eq_false_iff_eq.mpr c16
 clear c16
 simp only [Option.some.injEq, Prod.mk.injEq] at H
 obtain ⟨rfl, rfl, rfl⟩ := H
 try go_wp2
 go_ret3
 exact ⟨er, bw⟩

/-! ### command_framed: function 49 -/
def command_framed.f (a0 : ByteArray) : Option (ByteArray × Int) := (crc_Take.f a0).bind fun bt223 => (if bt223.2.2 = 0 then (if bt223.2.1 = (a0.size : Int) then (some (bt223.1, 0)) else (if 10 = 0 then (some (bt223.1, 0)) else (some ((⟨#[]⟩ : ByteArray), 10)))) else (some ((⟨#[]⟩ : ByteArray), bt223.2.2)))
set_option maxHeartbeats 8000000 in
set_option maxRecDepth 100000 in
theorem command_framed.calls (a0 : ByteArray) (r1 : ByteArray) (r2 : Int) (w : World) (HT_ : TabOk w) (h : command_framed.f a0 = some (r1, r2)) :
  Calls Tryd.prog 49 #[.string a0] w fun e w' => e = .returned (.tuple #[.string r1, .int .i64 r2]) ∧ Below w.heap.size w w' := by
 have HT := Aside0.mk HT_
 clear HT_
 have HB := Aside0.mk (Below.refl w.heap.size w)
 have H := h
 unfold command_framed.f at H
 clear h
 replace H := Option.bind_eq_some_iff.mp H
 obtain ⟨⟨t223, t224, t225⟩, A20, H⟩ := H
 replace H : (if t225 = 0 then (if t224 = (a0.size : Int) then (some (t223, 0)) else (if 10 = 0 then (some (t223, 0)) else (some ((⟨#[]⟩ : ByteArray), 10)))) else (some ((⟨#[]⟩ : ByteArray), t225))) = some (r1, r2) := H
 have A2 := Aside0.mk A20
 clear A20
 by_cases c3 : t225 = 0; rotate_left
 ·rw [if_neg c3] at H
  have c3b0 : (t225 == 0) = false := beq_eq_false_iff_ne.mpr c3
  have c3b1 : (t225 != 0) = true := bne_iff_ne.mpr c3
  simp only [Option.some.injEq, Prod.mk.injEq] at H
  obtain ⟨rfl, rfl⟩ := H
  go_enter Tryd.func49, Tryd.ntmps49
  go_wp2_with (first | ((with_reducible refine gate_callee (f := 68) rfl ?_); refine goesL_ (some 9) rfl rfl Tryd.func68 (by kernel_rfl) rfl #[.string a0] rfl am ?_; (with_reducible refine (crc_Take.calls a0 t223 t224 t225 _ tbk A2.out).mono ?_); rintro e w9 ⟨rfl, hb⟩; refine ⟨_, rfl, ?_⟩; replace HB := Aside0.mk (below_step bw hb); (try clear hb)))
  go_ret2
  exact ⟨er, bw⟩
 rw [if_pos c3] at H
 have c3b0 : (t225 == 0) = true := beq_iff_eq.mpr c3
 have c3b1 : (t225 != 0) = false := bne_eq_false_iff_eq.mpr c3
 clear c3
 by_cases c4 : t224 = (a0.size : Int)
 ·rw [if_pos c4] at H
  have c4b0 : (t224 == (a0.size : Int)) = true := beq_iff_eq.mpr c4
  have c4b1 : (t224 != (a0.size : Int)) = false := bne_eq_false_iff_eq.mpr c4
  clear c4
  simp only [Option.some.injEq, Prod.mk.injEq] at H
  obtain ⟨rfl, rfl⟩ := H
  go_enter Tryd.func49, Tryd.ntmps49
  go_wp2_with (first | ((with_reducible refine gate_callee (f := 68) rfl ?_); refine goesL_ (some 9) rfl rfl Tryd.func68 (by kernel_rfl) rfl #[.string a0] rfl am ?_; (with_reducible refine (crc_Take.calls a0 t223 t224 t225 _ tbk A2.out).mono ?_); rintro e w5 ⟨rfl, hb⟩; refine ⟨_, rfl, ?_⟩; replace HB := Aside0.mk (below_step bw hb); (try clear hb)))
  go_ret2
  exact ⟨er, bw⟩
 rw [if_neg c4] at H
 have c4b0 : (t224 == (a0.size : Int)) = false := beq_eq_false_iff_ne.mpr c4
 have c4b1 : (t224 != (a0.size : Int)) = true := bne_iff_ne.mpr c4
 by_cases c6 : 10 = 0
 ·exact absurd c6 (by decide)
 rw [if_neg c6] at H
 have c6b0 : (10 == 0) = false := beq_eq_false_iff_ne.mpr c6
 have c6b1 : (10 != 0) = true := bne_iff_ne.mpr c6
 simp only [Option.some.injEq, Prod.mk.injEq] at H
 obtain ⟨rfl, rfl⟩ := H
 go_enter Tryd.func49, Tryd.ntmps49
 go_wp2_with (first | ((with_reducible refine gate_callee (f := 68) rfl ?_); refine goesL_ (some 9) rfl rfl Tryd.func68 (by kernel_rfl) rfl #[.string a0] rfl am ?_; (with_reducible refine (crc_Take.calls a0 t223 t224 t225 _ tbk A2.out).mono ?_); rintro e w8 ⟨rfl, hb⟩; refine ⟨_, rfl, ?_⟩; replace HB := Aside0.mk (below_step bw hb); (try clear hb)))
 go_ret2
 exact ⟨er, bw⟩

/-! ### command_Asked: function 22 -/
def command_Asked.f (k : Nat) (a0 : ByteArray) : Option (Int × ByteArray × ByteArray × Int × ByteArray × ByteArray × Int × Int × Int × Int) := (command_framed.f a0).bind fun bt227 => (if bt227.2 = 0 then ((command_Decode.f k bt227.1).bind fun bt229 => (if bt229.2.2.2.2.2.2.2.2.2 = 0 then (if bt229.2.2.2.2.2.2.2.1 = 0 then (some (bt229.1, bt229.2.1, bt229.2.2.1, bt229.2.2.2.1, bt229.2.2.2.2.1, bt229.2.2.2.2.2.1, bt229.2.2.2.2.2.2.1, bt229.2.2.2.2.2.2.2.1, bt229.2.2.2.2.2.2.2.2.1, 0)) else (some (0, (⟨#[]⟩ : ByteArray), (⟨#[]⟩ : ByteArray), 0, (⟨#[]⟩ : ByteArray), (⟨#[]⟩ : ByteArray), 0, 0, 0, 10))) else (some (0, (⟨#[]⟩ : ByteArray), (⟨#[]⟩ : ByteArray), 0, (⟨#[]⟩ : ByteArray), (⟨#[]⟩ : ByteArray), 0, 0, 0, 10)))) else (some (0, (⟨#[]⟩ : ByteArray), (⟨#[]⟩ : ByteArray), 0, (⟨#[]⟩ : ByteArray), (⟨#[]⟩ : ByteArray), 0, 0, 0, bt227.2)))
set_option maxHeartbeats 8000000 in
set_option maxRecDepth 100000 in
theorem command_Asked.calls (k : Nat) (a0 : ByteArray) (r1 : Int) (r2 : ByteArray) (r3 : ByteArray) (r4 : Int) (r5 : ByteArray) (r6 : ByteArray) (r7 : Int) (r8 : Int) (r9 : Int) (r10 : Int) (w : World) (HT_ : TabOk w) (h : command_Asked.f k a0 = some (r1, r2, r3, r4, r5, r6, r7, r8, r9, r10)) :
  Calls Tryd.prog 22 #[.string a0] w fun e w' => e = .returned (.tuple #[.agg #[.int .i64 r1, .string r2, .string r3, .int .i64 r4, .string r5, .string r6, .int .i64 r7, .int .i64 r8, .int .i64 r9], .int .i64 r10]) ∧ Below w.heap.size w w' := by
 have HT := Aside0.mk HT_
 clear HT_
 have hu23 := Tryd.underlying23
 have HB := Aside0.mk (Below.refl w.heap.size w)
 have H := h
 unfold command_Asked.f at H
 clear h
 replace H := Option.bind_eq_some_iff.mp H
 obtain ⟨⟨t227, t228⟩, A20, H⟩ := H
 replace H : (if t228 = 0 then ((command_Decode.f k t227).bind fun bt229 => (if bt229.2.2.2.2.2.2.2.2.2 = 0 then (if bt229.2.2.2.2.2.2.2.1 = 0 then (some (bt229.1, bt229.2.1, bt229.2.2.1, bt229.2.2.2.1, bt229.2.2.2.2.1, bt229.2.2.2.2.2.1, bt229.2.2.2.2.2.2.1, bt229.2.2.2.2.2.2.2.1, bt229.2.2.2.2.2.2.2.2.1, 0)) else (some (0, (⟨#[]⟩ : ByteArray), (⟨#[]⟩ : ByteArray), 0, (⟨#[]⟩ : ByteArray), (⟨#[]⟩ : ByteArray), 0, 0, 0, 10))) else (some (0, (⟨#[]⟩ : ByteArray), (⟨#[]⟩ : ByteArray), 0, (⟨#[]⟩ : ByteArray), (⟨#[]⟩ : ByteArray), 0, 0, 0, 10)))) else (some (0, (⟨#[]⟩ : ByteArray), (⟨#[]⟩ : ByteArray), 0, (⟨#[]⟩ : ByteArray), (⟨#[]⟩ : ByteArray), 0, 0, 0, t228))) = some (r1, r2, r3, r4, r5, r6, r7, r8, r9, r10) := H
 have A2 := Aside0.mk A20
 clear A20
 by_cases c3 : t228 = 0; rotate_left
 ·rw [if_neg c3] at H
  have c3b0 : (t228 == 0) = false := beq_eq_false_iff_ne.mpr c3
  have c3b1 : (t228 != 0) = true := bne_iff_ne.mpr c3
  simp only [Option.some.injEq, Prod.mk.injEq] at H
  obtain ⟨rfl, rfl, rfl, rfl, rfl, rfl, rfl, rfl, rfl, rfl⟩ := H
  go_enter Tryd.func22, Tryd.ntmps22
  go_wp2_with (first | ((with_reducible refine gate_dst (N := 2) rfl ?_); refine box_event ?hg (N := 2) ?hd (cs := za1_) (t := 23) ?hr ?_; (case hd => rfl); (case hg => rfl); (case hr => first | (go_simp; done) | (go_simp; rfl)); intro ab hg w28 hbox hb; have aa := Aside0.mk (hbox); have ag := Aside0.mk ((g1 hg bw : w.heap.size ≤ ab)); have ah := Aside0.mk ((g1 hg bw : w.heap.size ≤ ab)); replace HB := Aside0.mk (below_step bw hb); clear hb hbox hg) | ((with_reducible refine gate_callee (f := 49) rfl ?_); refine goesL_ (some 9) rfl rfl Tryd.func49 (by kernel_rfl) rfl #[.string a0] rfl am ?_; (with_reducible refine (command_framed.calls a0 t227 t228 _ tbk A2.out).mono ?_); rintro e w29 ⟨rfl, hb⟩; refine ⟨_, rfl, ?_⟩; replace aa := Aside0.mk (nb aa.out hb); replace HB := Aside0.mk (below_step bw hb); (try clear hb); obtain ⟨hcz30_0, hcz30_1, hcz30_2, hcz30_3, hcz30_4, hcz30_5, hcz30_6, hcz30_7, hcz30_8, hfz30_0, hfz30_1, hfz30_2, hfz30_3, hfz30_4, hfz30_5, hfz30_6, hfz30_7, hfz30_8⟩ := bx9 aa.out))
  refine bodyPost_ret (results_ct rfl _ _ ab 23 #[.int .i64 0, .string (⟨#[]⟩ : ByteArray), .string (⟨#[]⟩ : ByteArray), .int .i64 0, .string (⟨#[]⟩ : ByteArray), .string (⟨#[]⟩ : ByteArray), .int .i64 0, .int .i64 0, .int .i64 0] (0, 0) _ rfl (by (iterate 9 ((with_reducible repeat (first | refine blk_drewN ?_ _ | refine blk_drew ?_ | refine blk_alloc ?_ _)); refine blk_put (cs := za1_) ?_ _ _ rfl)); (with_reducible repeat (first | refine blk_drewN ?_ _ | refine blk_drew ?_ | refine blk_alloc ?_ _)); exact aa.out) Tryd.underlying23 rfl (by kernel_rfl)) rfl ?_
  exact ⟨er, bw⟩
 rw [if_pos c3] at H
 have c3b0 : (t228 == 0) = true := beq_iff_eq.mpr c3
 have c3b1 : (t228 != 0) = false := bne_eq_false_iff_eq.mpr c3
 clear c3
 replace H := Option.bind_eq_some_iff.mp H
 obtain ⟨⟨t229, t230, t231, t232, t233, t234, t235, t236, t237, t238⟩, A40, H⟩ := H
 replace H : (if t238 = 0 then (if t236 = 0 then (some (t229, t230, t231, t232, t233, t234, t235, t236, t237, 0)) else (some (0, (⟨#[]⟩ : ByteArray), (⟨#[]⟩ : ByteArray), 0, (⟨#[]⟩ : ByteArray), (⟨#[]⟩ : ByteArray), 0, 0, 0, 10))) else (some (0, (⟨#[]⟩ : ByteArray), (⟨#[]⟩ : ByteArray), 0, (⟨#[]⟩ : ByteArray), (⟨#[]⟩ : ByteArray), 0, 0, 0, 10))) = some (r1, r2, r3, r4, r5, r6, r7, r8, r9, r10) := H
 have A4 := Aside0.mk A40
 clear A40
 by_cases c5 : t238 = 0; rotate_left
 ·rw [if_neg c5] at H
  have c5b0 : (t238 == 0) = false := beq_eq_false_iff_ne.mpr c5
  have c5b1 : (t238 != 0) = true := bne_iff_ne.mpr c5
  simp only [Option.some.injEq, Prod.mk.injEq] at H
  obtain ⟨rfl, rfl, rfl, rfl, rfl, rfl, rfl, rfl, rfl, rfl⟩ := H
  go_enter Tryd.func22, Tryd.ntmps22
  go_wp2_with (first | ((with_reducible refine gate_dst (N := 2) rfl ?_); refine box_event ?hg (N := 2) ?hd (cs := za1_) (t := 23) ?hr ?_; (case hd => rfl); (case hg => rfl); (case hr => first | (go_simp; done) | (go_simp; rfl)); intro ab hg w21 hbox hb; have aa := Aside0.mk (hbox); have ag := Aside0.mk ((g1 hg bw : w.heap.size ≤ ab)); have ah := Aside0.mk ((g1 hg bw : w.heap.size ≤ ab)); replace HB := Aside0.mk (below_step bw hb); clear hb hbox hg) | ((with_reducible refine gate_callee (f := 49) rfl ?_); refine goesL_ (some 9) rfl rfl Tryd.func49 (by kernel_rfl) rfl #[.string a0] rfl am ?_; (with_reducible refine (command_framed.calls a0 t227 t228 _ tbk A2.out).mono ?_); rintro e w22 ⟨rfl, hb⟩; refine ⟨_, rfl, ?_⟩; replace aa := Aside0.mk (nb aa.out hb); replace HB := Aside0.mk (below_step bw hb); (try clear hb)) | ((with_reducible refine gate_callee (f := 14) rfl ?_); refine goesL_ (some 18) rfl rfl Tryd.func14 (by kernel_rfl) rfl #[.string t227] rfl am ?_; (with_reducible refine (command_Decode.calls k t227 t229 t230 t231 t232 t233 t234 t235 t236 t237 t238 _ tbk A4.out).mono ?_); rintro e w23 ⟨rfl, hb⟩; refine ⟨_, rfl, ?_⟩; replace aa := Aside0.mk (nb aa.out hb); replace HB := Aside0.mk (below_step bw hb); (try clear hb)) | ((with_reducible refine gate_dst (N := 6) rfl ?_); refine box_event ?hg (N := 6) ?hd (cs := za1_) (t := 23) ?hr ?_; (case hd => rfl); (case hg => rfl); (case hr => first | (go_simp; done) | (go_simp; rfl)); intro ad hg w24 hbox hb; have af := Aside0.mk (hbox); have ai := Aside0.mk ((g1 hg bw : w.heap.size ≤ ad)); have aj := Aside0.mk ((g1 hg bw : w.heap.size ≤ ad)); replace HB := Aside0.mk (below_step bw hb); have ac := Aside0.mk ((n1 hg aa.out : ab ≠ ad)); have ae := Aside0.mk ((n2 hg aa.out : ad ≠ ab)); replace aa := Aside0.mk (nb aa.out hb); clear hb hbox hg; have hnb25 := ae.out; have hnc25 := ac.out; obtain ⟨hcz26_0, hcz26_1, hcz26_2, hcz26_3, hcz26_4, hcz26_5, hcz26_6, hcz26_7, hcz26_8, hfz26_0, hfz26_1, hfz26_2, hfz26_3, hfz26_4, hfz26_5, hfz26_6, hfz26_7, hfz26_8⟩ := bx9 af.out; obtain ⟨hcz27_0, hcz27_1, hcz27_2, hcz27_3, hcz27_4, hcz27_5, hcz27_6, hcz27_7, hcz27_8, hfz27_0, hfz27_1, hfz27_2, hfz27_3, hfz27_4, hfz27_5, hfz27_6, hfz27_7, hfz27_8⟩ := bx9 aa.out))
  refine bodyPost_ret (results_ct rfl _ _ ab 23 #[.int .i64 0, .string (⟨#[]⟩ : ByteArray), .string (⟨#[]⟩ : ByteArray), .int .i64 0, .string (⟨#[]⟩ : ByteArray), .string (⟨#[]⟩ : ByteArray), .int .i64 0, .int .i64 0, .int .i64 0] (0, 0) _ rfl (by (iterate 9 ((with_reducible repeat (first | refine blk_drewN ?_ _ | refine blk_drew ?_ | refine blk_alloc ?_ _)); refine blk_put (cs := za1_) ?_ _ _ rfl)); (with_reducible repeat (first | refine blk_drewN ?_ _ | refine blk_drew ?_ | refine blk_alloc ?_ _ | refine blk_far ?_ ac.out _)); exact aa.out) Tryd.underlying23 rfl (by kernel_rfl)) rfl ?_
  exact ⟨er, bw⟩
 rw [if_pos c5] at H
 have c5b0 : (t238 == 0) = true := beq_iff_eq.mpr c5
 have c5b1 : (t238 != 0) = false := bne_eq_false_iff_eq.mpr c5
 clear c5
 by_cases c6 : t236 = 0; rotate_left
 ·rw [if_neg c6] at H
  have c6b0 : (t236 == 0) = false := beq_eq_false_iff_ne.mpr c6
  have c6b1 : (t236 != 0) = true := bne_iff_ne.mpr c6
  simp only [Option.some.injEq, Prod.mk.injEq] at H
  obtain ⟨rfl, rfl, rfl, rfl, rfl, rfl, rfl, rfl, rfl, rfl⟩ := H
  go_enter Tryd.func22, Tryd.ntmps22
  go_wp2_with (first | ((with_reducible refine gate_dst (N := 2) rfl ?_); refine box_event ?hg (N := 2) ?hd (cs := za1_) (t := 23) ?hr ?_; (case hd => rfl); (case hg => rfl); (case hr => first | (go_simp; done) | (go_simp; rfl)); intro ab hg w14 hbox hb; have aa := Aside0.mk (hbox); have ag := Aside0.mk ((g1 hg bw : w.heap.size ≤ ab)); have ah := Aside0.mk ((g1 hg bw : w.heap.size ≤ ab)); replace HB := Aside0.mk (below_step bw hb); clear hb hbox hg) | ((with_reducible refine gate_callee (f := 49) rfl ?_); refine goesL_ (some 9) rfl rfl Tryd.func49 (by kernel_rfl) rfl #[.string a0] rfl am ?_; (with_reducible refine (command_framed.calls a0 t227 t228 _ tbk A2.out).mono ?_); rintro e w15 ⟨rfl, hb⟩; refine ⟨_, rfl, ?_⟩; replace aa := Aside0.mk (nb aa.out hb); replace HB := Aside0.mk (below_step bw hb); (try clear hb)) | ((with_reducible refine gate_callee (f := 14) rfl ?_); refine goesL_ (some 18) rfl rfl Tryd.func14 (by kernel_rfl) rfl #[.string t227] rfl am ?_; (with_reducible refine (command_Decode.calls k t227 t229 t230 t231 t232 t233 t234 t235 t236 t237 t238 _ tbk A4.out).mono ?_); rintro e w16 ⟨rfl, hb⟩; refine ⟨_, rfl, ?_⟩; replace aa := Aside0.mk (nb aa.out hb); replace HB := Aside0.mk (below_step bw hb); (try clear hb)) | ((with_reducible refine gate_dst (N := 6) rfl ?_); refine box_event ?hg (N := 6) ?hd (cs := za1_) (t := 23) ?hr ?_; (case hd => rfl); (case hg => rfl); (case hr => first | (go_simp; done) | (go_simp; rfl)); intro ad hg w17 hbox hb; have af := Aside0.mk (hbox); have ai := Aside0.mk ((g1 hg bw : w.heap.size ≤ ad)); have aj := Aside0.mk ((g1 hg bw : w.heap.size ≤ ad)); replace HB := Aside0.mk (below_step bw hb); have ac := Aside0.mk ((n1 hg aa.out : ab ≠ ad)); have ae := Aside0.mk ((n2 hg aa.out : ad ≠ ab)); replace aa := Aside0.mk (nb aa.out hb); clear hb hbox hg; have hnb18 := ae.out; have hnc18 := ac.out; obtain ⟨hcz19_0, hcz19_1, hcz19_2, hcz19_3, hcz19_4, hcz19_5, hcz19_6, hcz19_7, hcz19_8, hfz19_0, hfz19_1, hfz19_2, hfz19_3, hfz19_4, hfz19_5, hfz19_6, hfz19_7, hfz19_8⟩ := bx9 af.out; obtain ⟨hcz20_0, hcz20_1, hcz20_2, hcz20_3, hcz20_4, hcz20_5, hcz20_6, hcz20_7, hcz20_8, hfz20_0, hfz20_1, hfz20_2, hfz20_3, hfz20_4, hfz20_5, hfz20_6, hfz20_7, hfz20_8⟩ := bx9 aa.out))
  refine bodyPost_ret (results_ct rfl _ _ ab 23 #[.int .i64 0, .string (⟨#[]⟩ : ByteArray), .string (⟨#[]⟩ : ByteArray), .int .i64 0, .string (⟨#[]⟩ : ByteArray), .string (⟨#[]⟩ : ByteArray), .int .i64 0, .int .i64 0, .int .i64 0] (0, 0) _ rfl (by (iterate 9 ((with_reducible repeat (first | refine blk_drewN ?_ _ | refine blk_drew ?_ | refine blk_alloc ?_ _)); refine blk_put (cs := za1_) ?_ _ _ rfl)); (with_reducible repeat (first | refine blk_drewN ?_ _ | refine blk_drew ?_ | refine blk_alloc ?_ _ | refine blk_far ?_ ac.out _)); exact aa.out) Tryd.underlying23 rfl (by kernel_rfl)) rfl ?_
  exact ⟨er, bw⟩
 rw [if_pos c6] at H
 have c6b0 : (t236 == 0) = true := beq_iff_eq.mpr c6
 have c6b1 : (t236 != 0) = false := bne_eq_false_iff_eq.mpr c6
 clear c6
 simp only [Option.some.injEq, Prod.mk.injEq] at H
 obtain ⟨rfl, rfl, rfl, rfl, rfl, rfl, rfl, rfl, rfl, rfl⟩ := H
 go_enter Tryd.func22, Tryd.ntmps22
 go_wp2_with (first | ((with_reducible refine gate_dst (N := 2) rfl ?_); refine box_event ?hg (N := 2) ?hd (cs := za1_) (t := 23) ?hr ?_; (case hd => rfl); (case hg => rfl); (case hr => first | (go_simp; done) | (go_simp; rfl)); intro ab hg w7 hbox hb; have aa := Aside0.mk (hbox); have ag := Aside0.mk ((g1 hg bw : w.heap.size ≤ ab)); have ah := Aside0.mk ((g1 hg bw : w.heap.size ≤ ab)); replace HB := Aside0.mk (below_step bw hb); clear hb hbox hg) | ((with_reducible refine gate_callee (f := 49) rfl ?_); refine goesL_ (some 9) rfl rfl Tryd.func49 (by kernel_rfl) rfl #[.string a0] rfl am ?_; (with_reducible refine (command_framed.calls a0 t227 t228 _ tbk A2.out).mono ?_); rintro e w8 ⟨rfl, hb⟩; refine ⟨_, rfl, ?_⟩; replace aa := Aside0.mk (nb aa.out hb); replace HB := Aside0.mk (below_step bw hb); (try clear hb)) | ((with_reducible refine gate_callee (f := 14) rfl ?_); refine goesL_ (some 18) rfl rfl Tryd.func14 (by kernel_rfl) rfl #[.string t227] rfl am ?_; (with_reducible refine (command_Decode.calls k t227 t229 t230 t231 t232 t233 t234 t235 t236 t237 t238 _ tbk A4.out).mono ?_); rintro e w9 ⟨rfl, hb⟩; refine ⟨_, rfl, ?_⟩; replace aa := Aside0.mk (nb aa.out hb); replace HB := Aside0.mk (below_step bw hb); (try clear hb)) | ((with_reducible refine gate_dst (N := 6) rfl ?_); refine box_event ?hg (N := 6) ?hd (cs := za1_) (t := 23) ?hr ?_; (case hd => rfl); (case hg => rfl); (case hr => first | (go_simp; done) | (go_simp; rfl)); intro ad hg w10 hbox hb; have af := Aside0.mk (hbox); have ai := Aside0.mk ((g1 hg bw : w.heap.size ≤ ad)); have aj := Aside0.mk ((g1 hg bw : w.heap.size ≤ ad)); replace HB := Aside0.mk (below_step bw hb); have ac := Aside0.mk ((n1 hg aa.out : ab ≠ ad)); have ae := Aside0.mk ((n2 hg aa.out : ad ≠ ab)); replace aa := Aside0.mk (nb aa.out hb); clear hb hbox hg; have hnb11 := ae.out; have hnc11 := ac.out; obtain ⟨hcz12_0, hcz12_1, hcz12_2, hcz12_3, hcz12_4, hcz12_5, hcz12_6, hcz12_7, hcz12_8, hfz12_0, hfz12_1, hfz12_2, hfz12_3, hfz12_4, hfz12_5, hfz12_6, hfz12_7, hfz12_8⟩ := bx9 af.out; obtain ⟨hcz13_0, hcz13_1, hcz13_2, hcz13_3, hcz13_4, hcz13_5, hcz13_6, hcz13_7, hcz13_8, hfz13_0, hfz13_1, hfz13_2, hfz13_3, hfz13_4, hfz13_5, hfz13_6, hfz13_7, hfz13_8⟩ := bx9 aa.out))
 refine bodyPost_ret (results_ct rfl _ _ ab 23 #[.int .i64 t229, .string t230, .string t231, .int .i64 t232, .string t233, .string t234, .int .i64 t235, .int .i64 t236, .int .i64 t237] (0, 0) _ rfl (by (with_reducible repeat (first | refine blk_drewN ?_ _ | refine blk_drew ?_ | refine blk_alloc ?_ _)); refine blk_put (cs := #[.int .i64 t229, .string t230, .string t231, .int .i64 t232, .string t233, .string t234, .int .i64 t235, .int .i64 t236, .int .i64 0]) ?_ 8 _ rfl; (with_reducible repeat (first | refine blk_drewN ?_ _ | refine blk_drew ?_ | refine blk_alloc ?_ _)); refine blk_put (cs := #[.int .i64 t229, .string t230, .string t231, .int .i64 t232, .string t233, .string t234, .int .i64 t235, .int .i64 0, .int .i64 0]) ?_ 7 _ rfl; (with_reducible repeat (first | refine blk_drewN ?_ _ | refine blk_drew ?_ | refine blk_alloc ?_ _)); refine blk_put (cs := #[.int .i64 t229, .string t230, .string t231, .int .i64 t232, .string t233, .string t234, .int .i64 0, .int .i64 0, .int .i64 0]) ?_ 6 _ rfl; (with_reducible repeat (first | refine blk_drewN ?_ _ | refine blk_drew ?_ | refine blk_alloc ?_ _)); refine blk_put (cs := #[.int .i64 t229, .string t230, .string t231, .int .i64 t232, .string t233, .string (⟨#[]⟩ : ByteArray), .int .i64 0, .int .i64 0, .int .i64 0]) ?_ 5 _ rfl; (with_reducible repeat (first | refine blk_drewN ?_ _ | refine blk_drew ?_ | refine blk_alloc ?_ _)); refine blk_put (cs := #[.int .i64 t229, .string t230, .string t231, .int .i64 t232, .string (⟨#[]⟩ : ByteArray), .string (⟨#[]⟩ : ByteArray), .int .i64 0, .int .i64 0, .int .i64 0]) ?_ 4 _ rfl; (with_reducible repeat (first | refine blk_drewN ?_ _ | refine blk_drew ?_ | refine blk_alloc ?_ _)); refine blk_put (cs := #[.int .i64 t229, .string t230, .string t231, .int .i64 0, .string (⟨#[]⟩ : ByteArray), .string (⟨#[]⟩ : ByteArray), .int .i64 0, .int .i64 0, .int .i64 0]) ?_ 3 _ rfl; (with_reducible repeat (first | refine blk_drewN ?_ _ | refine blk_drew ?_ | refine blk_alloc ?_ _)); refine blk_put (cs := #[.int .i64 t229, .string t230, .string (⟨#[]⟩ : ByteArray), .int .i64 0, .string (⟨#[]⟩ : ByteArray), .string (⟨#[]⟩ : ByteArray), .int .i64 0, .int .i64 0, .int .i64 0]) ?_ 2 _ rfl; (with_reducible repeat (first | refine blk_drewN ?_ _ | refine blk_drew ?_ | refine blk_alloc ?_ _)); refine blk_put (cs := #[.int .i64 t229, .string (⟨#[]⟩ : ByteArray), .string (⟨#[]⟩ : ByteArray), .int .i64 0, .string (⟨#[]⟩ : ByteArray), .string (⟨#[]⟩ : ByteArray), .int .i64 0, .int .i64 0, .int .i64 0]) ?_ 1 _ rfl; (with_reducible repeat (first | refine blk_drewN ?_ _ | refine blk_drew ?_ | refine blk_alloc ?_ _)); refine blk_put (cs := za1_) ?_ 0 _ rfl; (with_reducible repeat (first | refine blk_drewN ?_ _ | refine blk_drew ?_ | refine blk_alloc ?_ _ | refine blk_far ?_ ac.out _)); exact aa.out) Tryd.underlying23 rfl (by kernel_rfl)) rfl ?_
 exact ⟨er, bw⟩

end Go.Proofs.YtpgiagdpepkooaaDoor.P
