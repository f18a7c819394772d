-- Printed by this session's program wip/xp.py (a turned copy of the kit's printer): functions, their contracts.
import Derived.Test.YtkcooehlahifkaaDoorPx0
namespace Go.Proofs.YtkcooehlahifkaaDoor.P
open Go.RowKit Go.Proofs.YtkcooehlahifkaaDoorW.PrintWords Go.Proofs.YtkcooehlahifkaaDoorW.PrintLast Go.Proofs.YtkcooehlahifkaaDoorW.PrintMore
attribute [local go_sem] max2_int min2_int max_two min_two max_three min_three max_four min_four   -- for this text's walks alone
set_option linter.unusedVariables false
set_option linter.unusedSimpArgs false

/-! ### crc_More: function 15 -/
/-- What four steps make of a sum. -/
def crcStepN (s : Nat) : Nat := (s / 16) ^^^ (crcTabN.getD (s % 16) 0)
/-- What a byte makes of a sum. -/
def crcByteN (s c : Nat) : Nat := crcStepN (crcStepN (s ^^^ c))
def crcFoldN (s : Nat) (l : List UInt8) : Nat := l.foldl (fun s c => crcByteN s c.toNat) s
theorem crcTabN_lt (i : Nat) : crcTabN.getD i 0 < 4294967296 := by
  by_cases h : i < 16
  · have : ∀ j : Fin 16, crcTabN.getD j.val 0 < 4294967296 := by decide
    exact this ⟨i, h⟩
  · rw [List.getD_eq_getElem?_getD, List.getElem?_eq_none (by simp only [crcTabN, List.length_cons, List.length_nil]; omega)]
    decide
theorem xor_lt32 {a b : Nat} (ha : a < 4294967296) (hb : b < 4294967296) : a ^^^ b < 4294967296 := Nat.xor_lt_two_pow (n := 32) ha hb
theorem crcStepN_lt {s : Nat} (h : s < 4294967296) : crcStepN s < 4294967296 := xor_lt32 (by omega) (crcTabN_lt _)
theorem crcByteN_lt {s c : Nat} (h : s < 4294967296) (hc : c < 256) : crcByteN s c < 4294967296 := crcStepN_lt (crcStepN_lt (xor_lt32 h (by omega)))
theorem crcFoldN_lt (l : List UInt8) : ∀ {s : Nat}, s < 4294967296 → crcFoldN s l < 4294967296 := by
  induction l with
  | nil => intro s h; exact h
  | cons c l ih => intro s h; exact ih (crcByteN_lt h c.toNat_lt)
theorem crcFoldN_snoc (s : Nat) (l : List UInt8) (c : UInt8) : crcFoldN s (l ++ [c]) = crcByteN (crcFoldN s l) c.toNat := by simp [crcFoldN]
theorem take_snocD (l : List UInt8) (k : Nat) (h : k < l.length) : l.take (k + 1) = l.take k ++ [l.getD k 0] := by
  rw [List.take_succ_eq_append_getElem h]
  simp [List.getD_eq_getElem?_getD, List.getElem?_eq_getElem h]
theorem below_conv (w : World) (e : TypeId) (s : ByteArray) : Below w.heap.size w (Lib.bytesWorld w e s) :=
  ⟨rfl, rfl, rfl, by rw [Lib.bytesWorld_size]; omega, fun i hi => Lib.bytesWorld_at_old w e s i hi⟩
def crc_More.f (a0 : Int) (a1 : ByteArray) : Option (Int) := if 0 ≤ a0 ∧ a0 < 4294967296 ∧ a1.size ≤ 9223372036854775807 then some ((4294967295 ^^^ crcFoldN (4294967295 ^^^ a0.toNat) a1.data.toList : Nat) : Int) else none
set_option maxHeartbeats 2000000 in
set_option maxRecDepth 100000 in
theorem crc_More.calls (a0 : Int) (a1 : ByteArray) (r : Int) (w : World) (HT_ : TabOk w) (h : crc_More.f a0 a1 = some r) :
    Calls Tryd.prog 15 #[.int .u32 a0, .string a1] w fun e w' => e = .returned (.int .u32 r) ∧ Below w.heap.size w w' := by
  unfold crc_More.f at h
  split at h
  case isFalse => exact absurd h (by simp)
  rename_i hcnd
  obtain ⟨h0, h1, h2⟩ := hcnd
  obtain rfl := Option.some.inj h
  obtain ⟨n0, rfl⟩ : ∃ n0 : Nat, a0 = (n0 : Int) := ⟨a0.toNat, by omega⟩
  have hn0 : n0 < 4294967296 := by omega
  clear h h0 h1
  obtain ⟨b0, hb0⟩ : ∃ b : Nat, b = 4294967295 ^^^ n0 := ⟨_, rfl⟩
  have hbl : b0 < 4294967296 := by rw [hb0]; exact xor_lt32 (by omega) hn0
  have hinv : Go.bits .xor .u32 IntKind.u32.max (n0 : Int) = (b0 : Int) := by rw [hb0]; exact u32_xor_nat 4294967295 n0 (by omega) hn0
  have HB0 := Aside0.mk hb0
  clear hb0
  have hconv := Lib.run_convert_string_bytes (P := Tryd.prog) w 9 47 5 a1 Tryd.underlying9 Tryd.underlying47 Tryd.underlying5
  have HBW := Aside0.mk (below_conv w 5 a1)
  have HCB := Aside0.mk (Lib.bytesWorld_cell w 5 a1)
  have HT := Aside0.mk (TabOk.below HT_ (below_conv w 5 a1))
  generalize Lib.bytesWorld w 5 a1 = W1 at hconv HBW HCB HT
  clear HT_
  have hl : a1.data.toList.length = a1.size := by rw [Array.length_toList]; rfl
  have HL := Aside0.mk hl
  clear hl
  have hr : ((4294967295 ^^^ n0 : Nat) : Int).toNat = 4294967295 ^^^ n0 := rfl
  rw [show ((n0 : Int)).toNat = n0 from rfl, ← HB0.out]
  clear hr
  go_enter Tryd.func15, Tryd.ntmps15
  go_wp2
  go_loop [0, 12] (fun s i => ∃ (k m : Nat), k ≤ a1.size ∧ i = .int .i64 k ∧ s = .int .u32 (m : Int) ∧ m < 4294967296 ∧ Aside0 (m = crcFoldN b0 (a1.data.toList.take k))) (fun _ i => a1.size - (intOf i).toNat)
  case atStart => exact ⟨0, b0, Nat.zero_le _, rfl, rfl, hbl, ⟨by simp [crcFoldN]⟩⟩
  case round =>
    obtain ⟨k, m, hk, rfl, rfl, hm, HM⟩ := hrel
    by_cases hlt : k < a1.size
    · have hc0 := HCB.out k hlt
      obtain ⟨c, hc⟩ : ∃ c : Nat, c = (a1.data.toList.getD k 0).toNat := ⟨_, rfl⟩
      rw [← hc] at hc0
      have hc1 : c < 256 := by rw [hc]; exact UInt8.toNat_lt _
      have HC := Aside0.mk hc
      clear hc
      obtain ⟨x1, hx1⟩ : ∃ x : Nat, x = m ^^^ c := ⟨_, rfl⟩
      have hx1l : x1 < 4294967296 := by rw [hx1]; exact xor_lt32 hm (by omega)
      have r1 : Go.bits .xor .u32 (m : Int) (c : Int) = (x1 : Int) := by rw [hx1]; exact u32_xor_nat m c hm (by omega)
      obtain ⟨n1, hn1⟩ : ∃ x : Nat, x = x1 % 16 := ⟨_, rfl⟩
      have hn1l : n1 < 16 := by omega
      have r2 : Go.bits .and .u32 (x1 : Int) 15 = (n1 : Int) := by
        rw [hn1]
        exact (u32_and_nat x1 15 hx1l (by omega)).trans (by rw [show x1 &&& 15 = x1 % 16 from Nat.and_two_pow_sub_one_eq_mod x1 4])
      obtain ⟨t1, ht1⟩ : ∃ x : Nat, x = crcTabN.getD n1 0 := ⟨_, rfl⟩
      have ht1l : t1 < 4294967296 := by rw [ht1]; exact crcTabN_lt _
      have hcell1 : W1.cell? ⟨0, n1, none⟩ = some (.int .u32 (t1 : Int)) := by rw [ht1]; exact TabOk.crc HT.out n1 hn1l
      obtain ⟨y1, hy1⟩ : ∃ x : Nat, x = (x1 / 16) ^^^ t1 := ⟨_, rfl⟩
      have hy1l : y1 < 4294967296 := by rw [hy1]; exact xor_lt32 (by omega) ht1l
      have r3 : Go.bits .xor .u32 ((x1 : Int) / 16) (t1 : Int) = (y1 : Int) := by rw [hy1]; exact u32_xor_nat (x1 / 16) t1 (by omega) ht1l
      obtain ⟨n2, hn2⟩ : ∃ x : Nat, x = y1 % 16 := ⟨_, rfl⟩
      have hn2l : n2 < 16 := by omega
      have r4 : Go.bits .and .u32 (y1 : Int) 15 = (n2 : Int) := by
        rw [hn2]
        exact (u32_and_nat y1 15 hy1l (by omega)).trans (by rw [show y1 &&& 15 = y1 % 16 from Nat.and_two_pow_sub_one_eq_mod y1 4])
      obtain ⟨t2, ht2⟩ : ∃ x : Nat, x = crcTabN.getD n2 0 := ⟨_, rfl⟩
      have ht2l : t2 < 4294967296 := by rw [ht2]; exact crcTabN_lt _
      have hcell2 : W1.cell? ⟨0, n2, none⟩ = some (.int .u32 (t2 : Int)) := by rw [ht2]; exact TabOk.crc HT.out n2 hn2l
      obtain ⟨y2, hy2⟩ : ∃ x : Nat, x = (y1 / 16) ^^^ t2 := ⟨_, rfl⟩
      have hy2l : y2 < 4294967296 := by rw [hy2]; exact xor_lt32 (by omega) ht2l
      have r5 : Go.bits .xor .u32 ((y1 : Int) / 16) (t2 : Int) = (y2 : Int) := by rw [hy2]; exact u32_xor_nat (y1 / 16) t2 (by omega) ht2l
      have HF : Aside0 (y2 = crcFoldN b0 (a1.data.toList.take (k + 1))) := ⟨by
        rw [take_snocD _ k (by rw [HL.out]; exact hlt), crcFoldN_snoc, ← HM.out, ← HC.out, hy2, ht2, hn2, hy1, ht1, hn1, hx1]
        rfl⟩
      have hcm : (c : Int) % 4294967296 = (c : Int) := by omega
      clear hx1 hn1 ht1 hy1 hn2 ht2 hy2
      go_wp2
      go_round
      case rel => exact ⟨k + 1, y2, by omega, by go_num, rfl, hy2l, HF⟩
      case measure => simp [intOf]; omega
    · obtain rfl : k = a1.size := by omega
      have hfin : Go.bits .xor .u32 IntKind.u32.max (m : Int) = ((4294967295 ^^^ m : Nat) : Int) := u32_xor_nat 4294967295 m (by omega) hm
      go_wp2
      go_ret
      exact ⟨congrArg (fun x : Nat => Ending.returned (.int .u32 ((4294967295 ^^^ x : Nat) : Int))) (HM.out.trans (by rw [← HL.out, List.take_length])), HBW.out⟩

/-! ### crc_Sum: function 13 -/
def crc_Sum.f (a0 : ByteArray) : Option (Int) := (crc_More.f 0 a0).bind fun t101 => (some t101)
set_option maxHeartbeats 8000000 in
set_option maxRecDepth 100000 in
theorem crc_Sum.calls (a0 : ByteArray) (r : Int) (w : World) (HT_ : TabOk w) (h : crc_Sum.f a0 = some r) :
    Calls Tryd.prog 13 #[.string a0] w fun e w' => e = .returned (.int .u32 r) ∧ Below w.heap.size w w' := by
  have HT := Aside0.mk HT_
  clear HT_
  have HB := Aside0.mk (Below.refl w.heap.size w)
  have H : ((crc_More.f 0 a0).bind fun t101 => (some t101)) = some r := h
  clear h
  replace H := Option.bind_eq_some_iff.mp H
  obtain ⟨t101, A20, H⟩ := H
  replace H : (some t101) = some r := H
  have A2 := Aside0.mk A20
  clear A20
  obtain rfl := Option.some.inj H
  go_enter Tryd.func13, Tryd.ntmps13
  go_wp2_with (first | ((with_reducible refine gate_callee (f := 15) rfl ?_); refine goesL_ (some 4) rfl rfl Tryd.func15 (by kernel_rfl) rfl #[.int .u32 0, .string a0] rfl am ?_; (with_reducible refine (crc_More.calls 0 a0 t101 _ tbk A2.out).mono ?_); rintro e w3 ⟨rfl, hb⟩; refine ⟨_, rfl, ?_⟩; have n0_ := Aside0.mk (below_step bw hb); clear HB; have HB := n0_; clear n0_; (try clear hb); (try clear hb2); (try clear hk); (try clear hi)))
  go_ret
  exact ⟨er, bw⟩

/-! ### crc_word: function 24 -/
def crc_word.f (a0 : Int) : Option (ByteArray) := some (strOfNums (([(a0 / 16777216) % 256, (a0 / 65536) % 256, (a0 / 256) % 256, (a0) % 256] : List Int)))
set_option maxHeartbeats 8000000 in
set_option maxRecDepth 100000 in
theorem crc_word.calls (a0 : Int) (r : ByteArray) (w : World) (h : crc_word.f a0 = some r) :
    Calls Tryd.prog 24 #[.int .u32 a0] w fun e w' => e = .returned (.string r) ∧ Below w.heap.size w w' := by
  have HB := Aside0.mk (Below.refl w.heap.size w)
  have H : (some (strOfNums (([(a0 / 16777216) % 256, (a0 / 65536) % 256, (a0 / 256) % 256, (a0) % 256] : List Int)))) = some r := h
  clear h
  obtain ⟨y102, hy102⟩ : ∃ y_ : List Int, y_ = (([(a0 / 16777216) % 256, (a0 / 65536) % 256, (a0 / 256) % 256, (a0) % 256] : List Int)) := ⟨_, rfl⟩
  replace H : (some (strOfNums y102)) = some r := by first | (rw [hy102]; with_reducible exact H) | (have H2_ := (Option.bind_some _ _).symm.trans H; rw [hy102]; with_reducible exact H2_) | (have H2_ := (Option.bind_some _ _).symm.trans H; with_reducible exact H2_) | with_reducible exact H | (rw [hy102]; exact H) | exact H
  have Ny102 := Aside0.mk hy102
  clear hy102
  obtain rfl := Option.some.inj H
  go_enter Tryd.func24, Tryd.ntmps24
  go_wp2_with (first | ((with_reducible refine gate_dst (N := 14) rfl ?_); refine Kd.R_lit (Kd.int .u8) _ 5 ?hg (N := 14) ?hd (xs := ([(a0 / 16777216) % 256, (a0 / 65536) % 256, (a0 / 256) % 256, (a0) % 256] : List Int)) (inner := [.int .u8 ((a0 / 16777216) % 256), .int .u8 ((a0 / 65536) % 256), .int .u8 ((a0 / 256) % 256), .int .u8 ((a0) % 256)]) (ok := fun _ => True) (okp := fun _ => True) ?hr ?hp (fun _ hk => hk) trivial (Below.refl _ _) (Nat.le_refl _) (by simp) ?_; (case hd => rfl); (case hg => rfl); (case hr => first | (go_simp; done) | (go_simp; rfl)); (case hp => exact (Reps.one (show Kd.M (Kd.int .u8) _ _ _ ((a0 / 16777216) % 256) [.int .u8 ((a0 / 16777216) % 256)] from rfl) (Reps.one (show Kd.M (Kd.int .u8) _ _ _ ((a0 / 65536) % 256) [.int .u8 ((a0 / 65536) % 256)] from rfl) (Reps.one (show Kd.M (Kd.int .u8) _ _ _ ((a0 / 256) % 256) [.int .u8 ((a0 / 256) % 256)] from rfl) (Reps.one (show Kd.M (Kd.int .u8) _ _ _ ((a0) % 256) [.int .u8 ((a0) % 256)] from rfl) (Reps.none _ _)))))); intro v103 w2 ho3 hb hg_ hnew_; clear hg_ hnew_; (first | rw [← Ny102.out] at ho3 | (simp only [Int.reduceToNat] at ho3; rw [← Ny102.out] at ho3)); have n0_ := Aside0.mk (Kd.R_lower ho3 (below_size bw)); have n1_ := Aside0.mk (below_step bw hb); clear HB; have HO104 := n0_; have HB := n1_; clear n0_ n1_; clear hb ho3; have hcv4 := own_string (P := Tryd.prog) Tryd.underlying47 Tryd.underlying5 Tryd.underlying9 (Kd.own_of_R HO104.out)))
  go_ret
  exact ⟨er, bw⟩

/-! ### crc_Frame: function 17 -/
def crc_Frame.f (a0 : ByteArray) : Option (ByteArray × Int) := if (a0.size : Int) > 400000 then (some ((⟨#[]⟩ : ByteArray), 3)) else ((crc_word.f (((a0.size : Int)) % 4294967296)).bind fun t105 => ((crc_Sum.f t105).bind fun t106 => ((crc_More.f t106 a0).bind fun t107 => ((crc_word.f t107).bind fun t108 => (if t105.size + t108.size ≤ 9223372036854775807 then (if (t105 ++ t108).size + a0.size ≤ 9223372036854775807 then (some ((t105 ++ t108) ++ a0, 0)) else (none)) else (none))))))
set_option maxHeartbeats 8000000 in
set_option maxRecDepth 100000 in
theorem crc_Frame.calls (a0 : ByteArray) (r1 : ByteArray) (r2 : Int) (w : World) (HT_ : TabOk w) (h : crc_Frame.f a0 = some (r1, r2)) :
    Calls Tryd.prog 17 #[.string a0] w fun e w' => e = .returned (.tuple #[.string r1, .int .i64 r2]) ∧ Below w.heap.size w w' := by
  have HT := Aside0.mk HT_
  clear HT_
  have HB := Aside0.mk (Below.refl w.heap.size w)
  have H : (if (a0.size : Int) > 400000 then (some ((⟨#[]⟩ : ByteArray), 3)) else ((crc_word.f (((a0.size : Int)) % 4294967296)).bind fun t105 => ((crc_Sum.f t105).bind fun t106 => ((crc_More.f t106 a0).bind fun t107 => ((crc_word.f t107).bind fun t108 => (if t105.size + t108.size ≤ 9223372036854775807 then (if (t105 ++ t108).size + a0.size ≤ 9223372036854775807 then (some ((t105 ++ t108) ++ a0, 0)) else (none)) else (none))))))) = some (r1, r2) := h
  clear h
  by_cases c2 : (a0.size : Int) > 400000
  · rw [if_pos c2] at H
    have c2b0 : decide (400000 < (a0.size : Int)) = true := decide_eq_true c2
    have c2b1 : decide (400000 < a0.size) = true := decide_eq_true (by omega)
    clear c2
    simp only [Option.some.injEq, Prod.mk.injEq] at H
    obtain ⟨rfl, rfl⟩ := H
    go_enter Tryd.func17, Tryd.ntmps17
    go_wp2
    go_ret2
    exact ⟨er, bw⟩
  · rw [if_neg c2] at H
    have c2b0 : decide (400000 < (a0.size : Int)) = false := decide_eq_false c2
    have c2b1 : decide (400000 < a0.size) = false := decide_eq_false (by omega)
    clear c2
    replace H := Option.bind_eq_some_iff.mp H
    obtain ⟨t105, A30, H⟩ := H
    replace H : ((crc_Sum.f t105).bind fun t106 => ((crc_More.f t106 a0).bind fun t107 => ((crc_word.f t107).bind fun t108 => (if t105.size + t108.size ≤ 9223372036854775807 then (if (t105 ++ t108).size + a0.size ≤ 9223372036854775807 then (some ((t105 ++ t108) ++ a0, 0)) else (none)) else (none))))) = some (r1, r2) := H
    have A3 := Aside0.mk A30
    clear A30
    replace H := Option.bind_eq_some_iff.mp H
    obtain ⟨t106, A40, H⟩ := H
    replace H : ((crc_More.f t106 a0).bind fun t107 => ((crc_word.f t107).bind fun t108 => (if t105.size + t108.size ≤ 9223372036854775807 then (if (t105 ++ t108).size + a0.size ≤ 9223372036854775807 then (some ((t105 ++ t108) ++ a0, 0)) else (none)) else (none)))) = some (r1, r2) := H
    have A4 := Aside0.mk A40
    clear A40
    replace H := Option.bind_eq_some_iff.mp H
    obtain ⟨t107, A50, H⟩ := H
    replace H : ((crc_word.f t107).bind fun t108 => (if t105.size + t108.size ≤ 9223372036854775807 then (if (t105 ++ t108).size + a0.size ≤ 9223372036854775807 then (some ((t105 ++ t108) ++ a0, 0)) else (none)) else (none))) = some (r1, r2) := H
    have A5 := Aside0.mk A50
    clear A50
    replace H := Option.bind_eq_some_iff.mp H
    obtain ⟨t108, A60, H⟩ := H
    replace H : (if t105.size + t108.size ≤ 9223372036854775807 then (if (t105 ++ t108).size + a0.size ≤ 9223372036854775807 then (some ((t105 ++ t108) ++ a0, 0)) else (none)) else (none)) = some (r1, r2) := H
    have A6 := Aside0.mk A60
    clear A60
    by_cases c7 : t105.size + t108.size ≤ 9223372036854775807
    · rw [if_pos c7] at H
      have c7b0 := eq_true c7
      have c7b1 : decide (t105.size + t108.size ≤ 9223372036854775807) = true := decide_eq_true c7
      try have c7b2 : (9223372036854775807 < t105.size + t108.size) = False := eq_false (Nat.not_lt.2 c7)
      by_cases c8 : (t105 ++ t108).size + a0.size ≤ 9223372036854775807
      · rw [if_pos c8] at H
        have c8b0 := eq_true c8
        have c8b1 : decide ((t105 ++ t108).size + a0.size ≤ 9223372036854775807) = true := decide_eq_true c8
        try have c8b2 : (9223372036854775807 < (t105 ++ t108).size + a0.size) = False := eq_false (Nat.not_lt.2 c8)
        simp only [Option.some.injEq, Prod.mk.injEq] at H
        obtain ⟨rfl, rfl⟩ := H
        go_enter Tryd.func17, Tryd.ntmps17
        go_wp2_with (first | ((with_reducible refine gate_callee (f := 24) rfl ?_); refine goesL_ (some 11) rfl rfl Tryd.func24 (by kernel_rfl) rfl #[.int .u32 (((a0.size : Int)) % 4294967296)] rfl am ?_; (with_reducible refine (crc_word.calls (((a0.size : Int)) % 4294967296) t105 _ A3.out).mono ?_); rintro e w9 ⟨rfl, hb⟩; refine ⟨_, rfl, ?_⟩; have n0_ := Aside0.mk (below_step bw hb); clear HB; have HB := n0_; clear n0_; (try clear hb); (try clear hb2); (try clear hk); (try clear hi)) | ((with_reducible refine gate_callee (f := 13) rfl ?_); refine goesL_ (some 14) rfl rfl Tryd.func13 (by kernel_rfl) rfl #[.string t105] rfl am ?_; (with_reducible refine (crc_Sum.calls t105 t106 _ tbk A4.out).mono ?_); rintro e w10 ⟨rfl, hb⟩; refine ⟨_, rfl, ?_⟩; have n0_ := Aside0.mk (below_step bw hb); clear HB; have HB := n0_; clear n0_; (try clear hb); (try clear hb2); (try clear hk); (try clear hi)) | ((with_reducible refine gate_callee (f := 15) rfl ?_); refine goesL_ (some 16) rfl rfl Tryd.func15 (by kernel_rfl) rfl #[.int .u32 t106, .string a0] rfl am ?_; (with_reducible refine (crc_More.calls t106 a0 t107 _ tbk A5.out).mono ?_); rintro e w11 ⟨rfl, hb⟩; refine ⟨_, rfl, ?_⟩; have n0_ := Aside0.mk (below_step bw hb); clear HB; have HB := n0_; clear n0_; (try clear hb); (try clear hb2); (try clear hk); (try clear hi)) | ((with_reducible refine gate_callee (f := 24) rfl ?_); refine goesL_ (some 17) rfl rfl Tryd.func24 (by kernel_rfl) rfl #[.int .u32 t107] rfl am ?_; (with_reducible refine (crc_word.calls t107 t108 _ A6.out).mono ?_); rintro e w12 ⟨rfl, hb⟩; refine ⟨_, rfl, ?_⟩; have n0_ := Aside0.mk (below_step bw hb); clear HB; have HB := n0_; clear n0_; (try clear hb); (try clear hb2); (try clear hk); (try clear hi)))
        go_ret2
        exact ⟨er, bw⟩
      · rw [if_neg c8] at H
        exact absurd H (by simp)
    · rw [if_neg c7] at H
      exact absurd H (by simp)

/-! ### crc_number: function 26 -/
def crc_number.f (a0 : ByteArray) : Option (Int) := if 0 < (a0.size : Int) then (if 1 < (a0.size : Int) then (if 2 < (a0.size : Int) then (if 3 < (a0.size : Int) then (some (Go.bits .or .u32 (Go.bits .or .u32 (Go.bits .or .u32 ((((bt a0 0) % 4294967296) * 16777216) % 4294967296) ((((bt a0 1) % 4294967296) * 65536) % 4294967296)) ((((bt a0 2) % 4294967296) * 256) % 4294967296)) ((bt a0 3) % 4294967296))) else (none)) else (none)) else (none)) else (none)
set_option maxHeartbeats 8000000 in
set_option maxRecDepth 100000 in
theorem crc_number.calls0 (a0 : ByteArray) (r : Int) (w : World) (h : crc_number.f a0 = some r) :
    Calls Tryd.prog 26 #[.string a0] w fun e w' => e = .returned (.int .u32 r) ∧ Drawn0 w w' := by
  have H : (if 0 < (a0.size : Int) then (if 1 < (a0.size : Int) then (if 2 < (a0.size : Int) then (if 3 < (a0.size : Int) then (some (Go.bits .or .u32 (Go.bits .or .u32 (Go.bits .or .u32 ((((bt a0 0) % 4294967296) * 16777216) % 4294967296) ((((bt a0 1) % 4294967296) * 65536) % 4294967296)) ((((bt a0 2) % 4294967296) * 256) % 4294967296)) ((bt a0 3) % 4294967296))) else (none)) else (none)) else (none)) else (none)) = some r := h
  clear h
  by_cases c2 : 0 < (a0.size : Int)
  · rw [if_pos c2] at H
    have c2b0 : decide (0 < (a0.size : Int)) = true := decide_eq_true c2
    have c2b1 : decide (0 < a0.size) = true := decide_eq_true (by omega)
    clear c2
    by_cases c4 : 1 < (a0.size : Int)
    · rw [if_pos c4] at H
      have c4b0 : decide (1 < (a0.size : Int)) = true := decide_eq_true c4
      have c4b1 : decide (1 < a0.size) = true := decide_eq_true (by omega)
      clear c4
      by_cases c6 : 2 < (a0.size : Int)
      · rw [if_pos c6] at H
        have c6b0 : decide (2 < (a0.size : Int)) = true := decide_eq_true c6
        have c6b1 : decide (2 < a0.size) = true := decide_eq_true (by omega)
        clear c6
        by_cases c8 : 3 < (a0.size : Int)
        · rw [if_pos c8] at H
          have c8b0 : decide (3 < (a0.size : Int)) = true := decide_eq_true c8
          have c8b1 : decide (3 < a0.size) = true := decide_eq_true (by omega)
          clear c8
          obtain rfl := Option.some.inj H
          have p3 : 0 ≤ (0 : Int) := (by omega)
          have q3 : 0 < a0.size := (by have : (0 : Int) < (a0.size : Int) := of_decide_eq_true (by first | (with_reducible assumption) | assumption); omega)
          have hx3 : ∀ h : 0 < a0.size, ((a0[0]'h).toNat : Int) = bt a0 0 := bt_at a0 0
          clear p3
          have qi3 : (0 < (a0.size : Int)) = True := eq_true (of_decide_eq_true (by first | (with_reducible assumption) | assumption))
          replace q3 := eq_true q3
          have p5 : 0 ≤ (1 : Int) := (by omega)
          have q5 : 1 < a0.size := (by have : (1 : Int) < (a0.size : Int) := of_decide_eq_true (by first | (with_reducible assumption) | assumption); omega)
          have hx5 : ∀ h : 1 < a0.size, ((a0[1]'h).toNat : Int) = bt a0 1 := bt_at a0 1
          clear p5
          have qi5 : (1 < (a0.size : Int)) = True := eq_true (of_decide_eq_true (by first | (with_reducible assumption) | assumption))
          replace q5 := eq_true q5
          have p7 : 0 ≤ (2 : Int) := (by omega)
          have q7 : 2 < a0.size := (by have : (2 : Int) < (a0.size : Int) := of_decide_eq_true (by first | (with_reducible assumption) | assumption); omega)
          have hx7 : ∀ h : 2 < a0.size, ((a0[2]'h).toNat : Int) = bt a0 2 := bt_at a0 2
          clear p7
          have qi7 : (2 < (a0.size : Int)) = True := eq_true (of_decide_eq_true (by first | (with_reducible assumption) | assumption))
          replace q7 := eq_true q7
          have p9 : 0 ≤ (3 : Int) := (by omega)
          have q9 : 3 < a0.size := (by have : (3 : Int) < (a0.size : Int) := of_decide_eq_true (by first | (with_reducible assumption) | assumption); omega)
          have hx9 : ∀ h : 3 < a0.size, ((a0[3]'h).toNat : Int) = bt a0 3 := bt_at a0 3
          clear p9
          have qi9 : (3 < (a0.size : Int)) = True := eq_true (of_decide_eq_true (by first | (with_reducible assumption) | assumption))
          replace q9 := eq_true q9
          go_enter Tryd.func26, Tryd.ntmps26
          go_wp2
          repeat (go_quiet (fail); try go_wp2)
          go_ret
          exact ⟨by first | rfl | (simp; done) | (simp [*]; done), by repeat (first | exact Drawn0.refl _ | apply Drawn0.step)⟩
        · rw [if_neg c8] at H
          exact absurd H (by simp)
      · rw [if_neg c6] at H
        exact absurd H (by simp)
    · rw [if_neg c4] at H
      exact absurd H (by simp)
  · rw [if_neg c2] at H
    exact absurd H (by simp)
theorem crc_number.calls (a0 : ByteArray) (r : Int) (w : World) (h : crc_number.f a0 = some r) :
    Calls Tryd.prog 26 #[.string a0] w fun e w' => e = .returned (.int .u32 r) ∧ Below w.heap.size w w' :=
  (crc_number.calls0 a0 r w h).mono fun e w' hh => ⟨hh.1, hh.2.below⟩

/-! ### crc_Take: function 19 -/
def crc_Take.f (a0 : ByteArray) : Option (ByteArray × Int × Int) := if (a0.size : Int) < 4 then (some ((⟨#[]⟩ : ByteArray), 0, 2)) else ((crc_number.f a0).bind fun t109 => (if t109 > 400000 then (some ((⟨#[]⟩ : ByteArray), 0, 3)) else (if (IntKind.u64.wrap ((a0.size : Int))) < (IntKind.u64.wrap (8 + (IntKind.u64.wrap (t109)))) then (some ((⟨#[]⟩ : ByteArray), 0, 2)) else (if 8 ≤ ((8 + t109) % 4294967296) then (if ((8 + t109) % 4294967296) ≤ (a0.size : Int) then (if 0 ≤ 4 then (if 4 ≤ (a0.size : Int) then ((crc_Sum.f (a0.extract 0 4)).bind fun t110 => ((crc_More.f t110 (a0.extract 8 (((8 + t109) % 4294967296) : Int).toNat)).bind fun t111 => ((crc_number.f (a0.extract 4 a0.size)).bind fun t112 => (if t111 = t112 then (some (a0.extract 8 (((8 + t109) % 4294967296) : Int).toNat, wrap64 (8 + (wrap64 (t109))), 0)) else (some ((⟨#[]⟩ : ByteArray), 0, 4)))))) else (none)) else (none)) else (none)) else (none)))))
def crc_Take.T9 : Bool × List (List Nat × List Nat) := (true, [([], []), ([0], [0]), ([1], [1]), ([], []), ([2, 3, 2], [2, 3]), ([], []), ([5], [5]), ([6, 4], [6]), ([4, 7], [4, 7])])
def crc_Take.B9 : List Nat := [0, 1, 3, 0, 15, 0, 32, 127, 255]
theorem crc_Take.tab9 : rtab .any (opsOf Tryd.f19 9) = crc_Take.T9 := by kernel_rfl
theorem crc_Take.bits9 : waitsOk crc_Take.T9.2 crc_Take.B9 = true := by kernel_rfl
set_option maxHeartbeats 8000000 in
set_option maxRecDepth 100000 in
theorem crc_Take.calls (a0 : ByteArray) (r1 : ByteArray) (r2 : Int) (r3 : Int) (w : World) (HT_ : TabOk w) (h : crc_Take.f a0 = some (r1, r2, r3)) :
    Calls Tryd.prog 19 #[.string a0] w fun e w' => e = .returned (.tuple #[.string r1, .int .i64 r2, .int .i64 r3]) ∧ Below w.heap.size w w' := by
  have HT := Aside0.mk HT_
  clear HT_
  have HB := Aside0.mk (Below.refl w.heap.size w)
  have H : (if (a0.size : Int) < 4 then (some ((⟨#[]⟩ : ByteArray), 0, 2)) else ((crc_number.f a0).bind fun t109 => (if t109 > 400000 then (some ((⟨#[]⟩ : ByteArray), 0, 3)) else (if (IntKind.u64.wrap ((a0.size : Int))) < (IntKind.u64.wrap (8 + (IntKind.u64.wrap (t109)))) then (some ((⟨#[]⟩ : ByteArray), 0, 2)) else (if 8 ≤ ((8 + t109) % 4294967296) then (if ((8 + t109) % 4294967296) ≤ (a0.size : Int) then (if 0 ≤ 4 then (if 4 ≤ (a0.size : Int) then ((crc_Sum.f (a0.extract 0 4)).bind fun t110 => ((crc_More.f t110 (a0.extract 8 (((8 + t109) % 4294967296) : Int).toNat)).bind fun t111 => ((crc_number.f (a0.extract 4 a0.size)).bind fun t112 => (if t111 = t112 then (some (a0.extract 8 (((8 + t109) % 4294967296) : Int).toNat, wrap64 (8 + (wrap64 (t109))), 0)) else (some ((⟨#[]⟩ : ByteArray), 0, 4)))))) else (none)) else (none)) else (none)) else (none)))))) = some (r1, r2, r3) := h
  clear h
  by_cases c2 : (a0.size : Int) < 4
  · rw [if_pos c2] at H
    have c2b0 : decide ((a0.size : Int) < 4) = true := decide_eq_true c2
    have c2b1 : decide (a0.size < 4) = true := decide_eq_true (by omega)
    clear c2
    simp only [Option.some.injEq, Prod.mk.injEq] at H
    obtain ⟨rfl, rfl, rfl⟩ := H
    go_enter Tryd.func19, Tryd.ntmps19
    go_wp2
    go_ret3
    exact ⟨er, bw⟩
  · rw [if_neg c2] at H
    have c2b0 : decide ((a0.size : Int) < 4) = false := decide_eq_false c2
    have c2b1 : decide (a0.size < 4) = false := decide_eq_false (by omega)
    clear c2
    replace H := Option.bind_eq_some_iff.mp H
    obtain ⟨t109, A30, H⟩ := H
    replace H : (if t109 > 400000 then (some ((⟨#[]⟩ : ByteArray), 0, 3)) else (if (IntKind.u64.wrap ((a0.size : Int))) < (IntKind.u64.wrap (8 + (IntKind.u64.wrap (t109)))) then (some ((⟨#[]⟩ : ByteArray), 0, 2)) else (if 8 ≤ ((8 + t109) % 4294967296) then (if ((8 + t109) % 4294967296) ≤ (a0.size : Int) then (if 0 ≤ 4 then (if 4 ≤ (a0.size : Int) then ((crc_Sum.f (a0.extract 0 4)).bind fun t110 => ((crc_More.f t110 (a0.extract 8 (((8 + t109) % 4294967296) : Int).toNat)).bind fun t111 => ((crc_number.f (a0.extract 4 a0.size)).bind fun t112 => (if t111 = t112 then (some (a0.extract 8 (((8 + t109) % 4294967296) : Int).toNat, wrap64 (8 + (wrap64 (t109))), 0)) else (some ((⟨#[]⟩ : ByteArray), 0, 4)))))) else (none)) else (none)) else (none)) else (none)))) = some (r1, r2, r3) := H
    have A3 := Aside0.mk A30
    clear A30
    by_cases c4 : t109 > 400000
    · rw [if_pos c4] at H
      have c4b0 : decide (400000 < t109) = true := decide_eq_true c4
      clear c4
      simp only [Option.some.injEq, Prod.mk.injEq] at H
      obtain ⟨rfl, rfl, rfl⟩ := H
      go_enter Tryd.func19, Tryd.ntmps19
      go_wp2_with (first | ((with_reducible refine gate_callee (f := 26) rfl ?_); refine goesL_ (some 10) rfl rfl Tryd.func26 (by kernel_rfl) rfl #[.string a0] rfl am ?_; (with_reducible refine (crc_number.calls a0 t109 _ A3.out).mono ?_); rintro e w5 ⟨rfl, hb⟩; refine ⟨_, rfl, ?_⟩; have n0_ := Aside0.mk (below_step bw hb); clear HB; have HB := n0_; clear n0_; (try clear hb); (try clear hb2); (try clear hk); (try clear hi)))
      go_ret3
      exact ⟨er, bw⟩
    · rw [if_neg c4] at H
      have c4b0 : decide (400000 < t109) = false := decide_eq_false c4
      clear c4
      by_cases c6 : (IntKind.u64.wrap ((a0.size : Int))) < (IntKind.u64.wrap (8 + (IntKind.u64.wrap (t109))))
      · rw [if_pos c6] at H
        have c6b0 : decide ((IntKind.u64.wrap ((a0.size : Int))) < (IntKind.u64.wrap (8 + (IntKind.u64.wrap (t109))))) = true := decide_eq_true c6
        clear c6
        simp only [Option.some.injEq, Prod.mk.injEq] at H
        obtain ⟨rfl, rfl, rfl⟩ := H
        go_enter Tryd.func19, Tryd.ntmps19
        go_wp2_with (first | ((with_reducible refine gate_callee (f := 26) rfl ?_); refine goesL_ (some 10) rfl rfl Tryd.func26 (by kernel_rfl) rfl #[.string a0] rfl am ?_; (with_reducible refine (crc_number.calls a0 t109 _ A3.out).mono ?_); rintro e w7 ⟨rfl, hb⟩; refine ⟨_, rfl, ?_⟩; have n0_ := Aside0.mk (below_step bw hb); clear HB; have HB := n0_; clear n0_; (try clear hb); (try clear hb2); (try clear hk); (try clear hi)))
        go_ret3
        exact ⟨er, bw⟩
      · rw [if_neg c6] at H
        have c6b0 : decide ((IntKind.u64.wrap ((a0.size : Int))) < (IntKind.u64.wrap (8 + (IntKind.u64.wrap (t109))))) = false := decide_eq_false c6
        clear c6
        by_cases c8 : 8 ≤ ((8 + t109) % 4294967296)
        · rw [if_pos c8] at H
          have c8b0 := eq_true c8
          have c8b1 : decide (8 ≤ ((8 + t109) % 4294967296)) = true := decide_eq_true c8
          by_cases c9 : ((8 + t109) % 4294967296) ≤ (a0.size : Int)
          · rw [if_pos c9] at H
            have c9b0 := eq_true c9
            have c9b1 : decide (((8 + t109) % 4294967296) ≤ (a0.size : Int)) = true := decide_eq_true c9
            by_cases c10 : 0 ≤ 4
            · rw [if_pos c10] at H
              have c10b0 := eq_true c10
              have c10b1 : decide (0 ≤ 4) = true := decide_eq_true c10
              clear c10
              by_cases c11 : 4 ≤ (a0.size : Int)
              · rw [if_pos c11] at H
                have c11b0 := eq_true c11
                have c11b1 : decide (4 ≤ (a0.size : Int)) = true := decide_eq_true c11
                clear c11
                replace H := Option.bind_eq_some_iff.mp H
                obtain ⟨t110, A120, H⟩ := H
                replace H : ((crc_More.f t110 (a0.extract 8 (((8 + t109) % 4294967296) : Int).toNat)).bind fun t111 => ((crc_number.f (a0.extract 4 a0.size)).bind fun t112 => (if t111 = t112 then (some (a0.extract 8 (((8 + t109) % 4294967296) : Int).toNat, wrap64 (8 + (wrap64 (t109))), 0)) else (some ((⟨#[]⟩ : ByteArray), 0, 4))))) = some (r1, r2, r3) := H
                have A12 := Aside0.mk A120
                clear A120
                replace H := Option.bind_eq_some_iff.mp H
                obtain ⟨t111, A130, H⟩ := H
                replace H : ((crc_number.f (a0.extract 4 a0.size)).bind fun t112 => (if t111 = t112 then (some (a0.extract 8 (((8 + t109) % 4294967296) : Int).toNat, wrap64 (8 + (wrap64 (t109))), 0)) else (some ((⟨#[]⟩ : ByteArray), 0, 4)))) = some (r1, r2, r3) := H
                have A13 := Aside0.mk A130
                clear A130
                have c14b0 := eq_true (of_decide_eq_true (by first | (with_reducible assumption) | assumption) : 4 ≤ (a0.size : Int))
                replace H := Option.bind_eq_some_iff.mp H
                obtain ⟨t112, A150, H⟩ := H
                replace H : (if t111 = t112 then (some (a0.extract 8 (((8 + t109) % 4294967296) : Int).toNat, wrap64 (8 + (wrap64 (t109))), 0)) else (some ((⟨#[]⟩ : ByteArray), 0, 4))) = some (r1, r2, r3) := H
                have A15 := Aside0.mk A150
                clear A150
                by_cases c16 : t111 = t112
                · rw [if_pos c16] at H
                  have c16b0 : (t111 == t112) = true := beq_iff_eq.mpr c16
                  have c16b1 : (t111 != t112) = false := bne_eq_false_iff_eq.mpr c16
                  clear c16
                  simp only [Option.some.injEq, Prod.mk.injEq] at H
                  obtain ⟨rfl, rfl, rfl⟩ := H
                  go_enter Tryd.func19, Tryd.ntmps19
                  try go_wp2_with (first | ((with_reducible refine gate_callee (f := 26) rfl ?_); refine goesL_ (some 10) rfl rfl Tryd.func26 (by kernel_rfl) rfl #[.string a0] rfl am ?_; (with_reducible refine (crc_number.calls a0 t109 _ A3.out).mono ?_); rintro e w17 ⟨rfl, hb⟩; refine ⟨_, rfl, ?_⟩; have n0_ := Aside0.mk (below_step bw hb); clear HB; have HB := n0_; clear n0_; (try clear hb); (try clear hb2); (try clear hk); (try clear hi)))
                  have n0_ := Aside0.mk (below_drew1 HB.out)
                  clear HB
                  have HB := n0_
                  clear n0_
                  refine start_ (n := 9) (S := fun w' => True) (ds := []) #[false, false, false, false, false, false, false, false, false] (by kernel_rfl) rfl rfl trivial (fun hHeld => ?_); refine with_tabW crc_Take.tab9 crc_Take.bits9 (fun HT_ HW_ => ?_)
                  generalize w17.drew = w18 at HB hHeld ⊢
                  refine pure_ (i := 0) (N := some 24) (v := ?_) (a' := ?_) #[true, false, false, false, false, false, false, false, false] rfl rfl (any_of HT_.out (by kernel_rfl)) (fun _ _ _ h => h) (Or.inl ⟨by rfl, ?_⟩) ?_ ?_
                  rotate_left
                  · intro w'
                    go_simp
                    with_reducible rfl
                  rotate_left
                  · simp only [Act.put, List.setIfInBounds_toArray, List.set_cons_zero, List.set_cons_succ, i64_w, i32_w]
                    rfl
                  refine pure_ (i := 1) (N := some 25) (v := ?_) (a' := ?_) #[true, true, false, false, false, false, false, false, false] rfl rfl (any_of HT_.out (by kernel_rfl)) (fun _ _ _ h => h) (Or.inl ⟨by rfl, ?_⟩) ?_ ?_
                  rotate_left
                  · intro w'
                    go_simp
                    with_reducible rfl
                  rotate_left
                  · simp only [Act.put, List.setIfInBounds_toArray, List.set_cons_zero, List.set_cons_succ, i64_w, i32_w]
                    rfl
                  refine pure_ (i := 3) (N := some 27) (v := ?_) (a' := ?_) #[true, true, false, true, false, false, false, false, false] rfl rfl (any_of HT_.out (by kernel_rfl)) (fun _ _ _ h => h) (Or.inl ⟨by rfl, ?_⟩) ?_ ?_
                  rotate_left
                  · intro w'
                    go_simp
                    with_reducible rfl
                  rotate_left
                  · simp only [Act.put, List.setIfInBounds_toArray, List.set_cons_zero, List.set_cons_succ, i64_w, i32_w]
                    rfl
                  refine pure_ (i := 5) (N := some 29) (v := ?_) (a' := ?_) #[true, true, false, true, false, true, false, false, false] rfl rfl (any_of HT_.out (by kernel_rfl)) (fun _ _ _ h => h) (Or.inl ⟨by rfl, ?_⟩) ?_ ?_
                  rotate_left
                  · intro w'
                    go_simp
                    with_reducible rfl
                  rotate_left
                  · simp only [Act.put, List.setIfInBounds_toArray, List.set_cons_zero, List.set_cons_succ, i64_w, i32_w]
                    rfl
                  refine pure_ (i := 6) (N := some 30) (v := ?_) (a' := ?_) #[true, true, false, true, false, true, true, false, false] rfl rfl (any_of HT_.out (by kernel_rfl)) (fun _ _ _ h => h) (Or.inl ⟨by rfl, ?_⟩) ?_ ?_
                  rotate_left
                  · intro w'
                    go_simp
                    with_reducible rfl
                  rotate_left
                  · simp only [Act.put, List.setIfInBounds_toArray, List.set_cons_zero, List.set_cons_succ, i64_w, i32_w]
                    rfl
                  refine one_ (i := 2) (N := some 26) #[true, true, true, true, false, true, true, false, false] rfl rfl (one_of HT_.out (by kernel_rfl)) (by decide) (fun K hK => ?_)
                  refine goes_ Tryd.func13 (by kernel_rfl) rfl #[.string (a0.extract 0 4)] (by rfl) rfl rfl am ?_
                  with_reducible refine (crc_Sum.calls (a0.extract 0 4) t110 _ tbk A12.out).mono ?_
                  rintro e w19 ⟨rfl, hb⟩
                  refine ⟨_, rfl, ?_⟩
                  have n0_ := Aside0.mk (below_step bw hb)
                  clear HB
                  have HB := n0_
                  clear n0_
                  (try clear hb)
                  (try clear hb2)
                  (try clear hk)
                  (try clear hi)
                  refine hK.out _ _ trivial (fun hHeld => ?_)
                  clear hK K
                  refine norm_ (a' := ?_) ?_ ?_
                  rotate_left
                  · show Act.put _ (some 26) _ = _
                    simp only [Act.put, List.setIfInBounds_toArray, List.set_cons_zero, List.set_cons_succ, i64_w, i32_w]
                    rfl
                  refine one_ (i := 4) (N := some 28) #[true, true, true, true, true, true, true, false, false] rfl rfl (one_of HT_.out (by kernel_rfl)) (by decide) (fun K hK => ?_)
                  refine goes_ Tryd.func15 (by kernel_rfl) rfl #[.int .u32 t110, .string (a0.extract 8 (((8 + t109) % 4294967296) : Int).toNat)] (by rfl) rfl rfl am ?_
                  with_reducible refine (crc_More.calls t110 (a0.extract 8 (((8 + t109) % 4294967296) : Int).toNat) t111 _ tbk A13.out).mono ?_
                  rintro e w20 ⟨rfl, hb⟩
                  refine ⟨_, rfl, ?_⟩
                  have n0_ := Aside0.mk (below_step bw hb)
                  clear HB
                  have HB := n0_
                  clear n0_
                  (try clear hb)
                  (try clear hb2)
                  (try clear hk)
                  (try clear hi)
                  refine hK.out _ _ trivial (fun hHeld => ?_)
                  clear hK K
                  refine norm_ (a' := ?_) ?_ ?_
                  rotate_left
                  · show Act.put _ (some 28) _ = _
                    simp only [Act.put, List.setIfInBounds_toArray, List.set_cons_zero, List.set_cons_succ, i64_w, i32_w]
                    rfl
                  refine one_ (i := 7) (N := some 31) #[true, true, true, true, true, true, true, true, false] rfl rfl (one_of HT_.out (by kernel_rfl)) (by decide) (fun K hK => ?_)
                  refine goes_ Tryd.func26 (by kernel_rfl) rfl #[.string (a0.extract 4 a0.size)] (by rfl) rfl rfl am ?_
                  with_reducible refine (crc_number.calls (a0.extract 4 a0.size) t112 _ A15.out).mono ?_
                  rintro e w21 ⟨rfl, hb⟩
                  refine ⟨_, rfl, ?_⟩
                  have n0_ := Aside0.mk (below_step bw hb)
                  clear HB
                  have HB := n0_
                  clear n0_
                  (try clear hb)
                  (try clear hb2)
                  (try clear hk)
                  (try clear hi)
                  refine hK.out _ _ trivial (fun hHeld => ?_)
                  clear hK K
                  refine norm_ (a' := ?_) ?_ ?_
                  rotate_left
                  · show Act.put _ (some 31) _ = _
                    simp only [Act.put, List.setIfInBounds_toArray, List.set_cons_zero, List.set_cons_succ, i64_w, i32_w]
                    rfl
                  refine pure_ (i := 8) (N := some 32) (v := ?_) (a' := ?_) #[true, true, true, true, true, true, true, true, true] rfl rfl (any_of HT_.out (by kernel_rfl)) (fun _ _ _ h => h) (Or.inl ⟨by rfl, ?_⟩) ?_ ?_
                  rotate_left
                  · intro w'
                    go_simp
                    with_reducible rfl
                  rotate_left
                  · simp only [Act.put, List.setIfInBounds_toArray, List.set_cons_zero, List.set_cons_succ, i64_w, i32_w]
                    rfl
                  refine done_ (done_of HT_.out (by kernel_rfl)) ?_
                  try go_wp2
                  go_ret3
                  exact ⟨er, bw⟩
                · rw [if_neg c16] at H
                  have c16b0 : (t111 == t112) = false := beq_eq_false_iff_ne.mpr c16
                  have c16b1 : (t111 != t112) = true := bne_iff_ne.mpr c16
                  simp only [Option.some.injEq, Prod.mk.injEq] at H
                  obtain ⟨rfl, rfl, rfl⟩ := H
                  go_enter Tryd.func19, Tryd.ntmps19
                  try go_wp2_with (first | ((with_reducible refine gate_callee (f := 26) rfl ?_); refine goesL_ (some 10) rfl rfl Tryd.func26 (by kernel_rfl) rfl #[.string a0] rfl am ?_; (with_reducible refine (crc_number.calls a0 t109 _ A3.out).mono ?_); rintro e w22 ⟨rfl, hb⟩; refine ⟨_, rfl, ?_⟩; have n0_ := Aside0.mk (below_step bw hb); clear HB; have HB := n0_; clear n0_; (try clear hb); (try clear hb2); (try clear hk); (try clear hi)))
                  have n0_ := Aside0.mk (below_drew1 HB.out)
                  clear HB
                  have HB := n0_
                  clear n0_
                  refine start_ (n := 9) (S := fun w' => True) (ds := []) #[false, false, false, false, false, false, false, false, false] (by kernel_rfl) rfl rfl trivial (fun hHeld => ?_); refine with_tabW crc_Take.tab9 crc_Take.bits9 (fun HT_ HW_ => ?_)
                  generalize w22.drew = w23 at HB hHeld ⊢
                  refine pure_ (i := 0) (N := some 24) (v := ?_) (a' := ?_) #[true, false, false, false, false, false, false, false, false] rfl rfl (any_of HT_.out (by kernel_rfl)) (fun _ _ _ h => h) (Or.inl ⟨by rfl, ?_⟩) ?_ ?_
                  rotate_left
                  · intro w'
                    go_simp
                    with_reducible rfl
                  rotate_left
                  · simp only [Act.put, List.setIfInBounds_toArray, List.set_cons_zero, List.set_cons_succ, i64_w, i32_w]
                    rfl
                  refine pure_ (i := 1) (N := some 25) (v := ?_) (a' := ?_) #[true, true, false, false, false, false, false, false, false] rfl rfl (any_of HT_.out (by kernel_rfl)) (fun _ _ _ h => h) (Or.inl ⟨by rfl, ?_⟩) ?_ ?_
                  rotate_left
                  · intro w'
                    go_simp
                    with_reducible rfl
                  rotate_left
                  · simp only [Act.put, List.setIfInBounds_toArray, List.set_cons_zero, List.set_cons_succ, i64_w, i32_w]
                    rfl
                  refine pure_ (i := 3) (N := some 27) (v := ?_) (a' := ?_) #[true, true, false, true, false, false, false, false, false] rfl rfl (any_of HT_.out (by kernel_rfl)) (fun _ _ _ h => h) (Or.inl ⟨by rfl, ?_⟩) ?_ ?_
                  rotate_left
                  · intro w'
                    go_simp
                    with_reducible rfl
                  rotate_left
                  · simp only [Act.put, List.setIfInBounds_toArray, List.set_cons_zero, List.set_cons_succ, i64_w, i32_w]
                    rfl
                  refine pure_ (i := 5) (N := some 29) (v := ?_) (a' := ?_) #[true, true, false, true, false, true, false, false, false] rfl rfl (any_of HT_.out (by kernel_rfl)) (fun _ _ _ h => h) (Or.inl ⟨by rfl, ?_⟩) ?_ ?_
                  rotate_left
                  · intro w'
                    go_simp
                    with_reducible rfl
                  rotate_left
                  · simp only [Act.put, List.setIfInBounds_toArray, List.set_cons_zero, List.set_cons_succ, i64_w, i32_w]
                    rfl
                  refine pure_ (i := 6) (N := some 30) (v := ?_) (a' := ?_) #[true, true, false, true, false, true, true, false, false] rfl rfl (any_of HT_.out (by kernel_rfl)) (fun _ _ _ h => h) (Or.inl ⟨by rfl, ?_⟩) ?_ ?_
                  rotate_left
                  · intro w'
                    go_simp
                    with_reducible rfl
                  rotate_left
                  · simp only [Act.put, List.setIfInBounds_toArray, List.set_cons_zero, List.set_cons_succ, i64_w, i32_w]
                    rfl
                  refine one_ (i := 2) (N := some 26) #[true, true, true, true, false, true, true, false, false] rfl rfl (one_of HT_.out (by kernel_rfl)) (by decide) (fun K hK => ?_)
                  refine goes_ Tryd.func13 (by kernel_rfl) rfl #[.string (a0.extract 0 4)] (by rfl) rfl rfl am ?_
                  with_reducible refine (crc_Sum.calls (a0.extract 0 4) t110 _ tbk A12.out).mono ?_
                  rintro e w24 ⟨rfl, hb⟩
                  refine ⟨_, rfl, ?_⟩
                  have n0_ := Aside0.mk (below_step bw hb)
                  clear HB
                  have HB := n0_
                  clear n0_
                  (try clear hb)
                  (try clear hb2)
                  (try clear hk)
                  (try clear hi)
                  refine hK.out _ _ trivial (fun hHeld => ?_)
                  clear hK K
                  refine norm_ (a' := ?_) ?_ ?_
                  rotate_left
                  · show Act.put _ (some 26) _ = _
                    simp only [Act.put, List.setIfInBounds_toArray, List.set_cons_zero, List.set_cons_succ, i64_w, i32_w]
                    rfl
                  refine one_ (i := 4) (N := some 28) #[true, true, true, true, true, true, true, false, false] rfl rfl (one_of HT_.out (by kernel_rfl)) (by decide) (fun K hK => ?_)
                  refine goes_ Tryd.func15 (by kernel_rfl) rfl #[.int .u32 t110, .string (a0.extract 8 (((8 + t109) % 4294967296) : Int).toNat)] (by rfl) rfl rfl am ?_
                  with_reducible refine (crc_More.calls t110 (a0.extract 8 (((8 + t109) % 4294967296) : Int).toNat) t111 _ tbk A13.out).mono ?_
                  rintro e w25 ⟨rfl, hb⟩
                  refine ⟨_, rfl, ?_⟩
                  have n0_ := Aside0.mk (below_step bw hb)
                  clear HB
                  have HB := n0_
                  clear n0_
                  (try clear hb)
                  (try clear hb2)
                  (try clear hk)
                  (try clear hi)
                  refine hK.out _ _ trivial (fun hHeld => ?_)
                  clear hK K
                  refine norm_ (a' := ?_) ?_ ?_
                  rotate_left
                  · show Act.put _ (some 28) _ = _
                    simp only [Act.put, List.setIfInBounds_toArray, List.set_cons_zero, List.set_cons_succ, i64_w, i32_w]
                    rfl
                  refine one_ (i := 7) (N := some 31) #[true, true, true, true, true, true, true, true, false] rfl rfl (one_of HT_.out (by kernel_rfl)) (by decide) (fun K hK => ?_)
                  refine goes_ Tryd.func26 (by kernel_rfl) rfl #[.string (a0.extract 4 a0.size)] (by rfl) rfl rfl am ?_
                  with_reducible refine (crc_number.calls (a0.extract 4 a0.size) t112 _ A15.out).mono ?_
                  rintro e w26 ⟨rfl, hb⟩
                  refine ⟨_, rfl, ?_⟩
                  have n0_ := Aside0.mk (below_step bw hb)
                  clear HB
                  have HB := n0_
                  clear n0_
                  (try clear hb)
                  (try clear hb2)
                  (try clear hk)
                  (try clear hi)
                  refine hK.out _ _ trivial (fun hHeld => ?_)
                  clear hK K
                  refine norm_ (a' := ?_) ?_ ?_
                  rotate_left
                  · show Act.put _ (some 31) _ = _
                    simp only [Act.put, List.setIfInBounds_toArray, List.set_cons_zero, List.set_cons_succ, i64_w, i32_w]
                    rfl
                  refine pure_ (i := 8) (N := some 32) (v := ?_) (a' := ?_) #[true, true, true, true, true, true, true, true, true] rfl rfl (any_of HT_.out (by kernel_rfl)) (fun _ _ _ h => h) (Or.inl ⟨by rfl, ?_⟩) ?_ ?_
                  rotate_left
                  · intro w'
                    go_simp
                    with_reducible rfl
                  rotate_left
                  · simp only [Act.put, List.setIfInBounds_toArray, List.set_cons_zero, List.set_cons_succ, i64_w, i32_w]
                    rfl
                  refine done_ (done_of HT_.out (by kernel_rfl)) ?_
                  try go_wp2
                  go_ret3
                  exact ⟨er, bw⟩
              · rw [if_neg c11] at H
                exact absurd H (by simp)
            · rw [if_neg c10] at H
              exact absurd H (by simp)
          · rw [if_neg c9] at H
            exact absurd H (by simp)
        · rw [if_neg c8] at H
          exact absurd H (by simp)

/-! ### crc_All: function 22 -/
def crc_All.l0 : Nat → ByteArray → List ByteArray → Int → Option (List ByteArray × Int × Int)
  | 0, _, _, _ => none
  | k + 1, x0, x2, x3 => if x3 = (x0.size : Int) then some (x2, x3, 0) else (if 0 ≤ x3 then (if x3 ≤ (x0.size : Int) then ((crc_Take.f (x0.extract (x3 : Int).toNat x0.size)).bind fun bt => (if bt.2.2 = 0 then (if x2.length < 8796093022208 then (crc_All.l0 k x0 (x2 ++ [bt.1]) (wrap64 (x3 + bt.2.1))) else none) else some (x2, x3, bt.2.2))) else none) else none)
def crc_All.f (k : Nat) (a0 : ByteArray) : Option (List ByteArray × Int × Int) := crc_All.l0 k a0 [] 0
theorem crc_All.mono_l : ∀ k, (∀ y0 y1 y2, LeO (crc_All.l0 k y0 y1 y2) (crc_All.l0 (k + 1) y0 y1 y2))
  | 0 => fun _ _ _ r h => by simp [crc_All.l0] at h
  | k + 1 => by
    have ih0 := crc_All.mono_l k
    intro y0 y1 y2
    unfold crc_All.l0
    repeat' first
      | (with_reducible exact ih0 _ _ _)
      | (with_reducible exact LeO.refl _)
      | (with_reducible exact LeO.none _)
      | (with_reducible refine LeO.ite ?_ ?_)
      | (with_reducible refine LeO.bind ?_ (fun _ => ?_))
theorem crc_All.mono : ∀ a0 k, LeO (crc_All.f k a0) (crc_All.f (k + 1) a0) := fun a0 k => crc_All.mono_l k _ _ _
set_option maxHeartbeats 4000000 in
set_option maxRecDepth 100000 in
theorem crc_All.calls (k : Nat) (a0 : ByteArray) (r1 : List ByteArray) (r2 : Int) (r3 : Int) (w : World) (HT_ : TabOk w) (h : crc_All.f k a0 = some (r1, r2, r3)) :
    Calls Tryd.prog 22 #[.string a0] w fun e w' => ∃ v0_ : Value, e = .returned (.tuple #[v0_, .int .i64 r2, .int .i64 r3]) ∧ Kd.R Kd.string 9 w' w.heap.size (fun _ => True) v0_ r1 ∧ Below w.heap.size w w' := by
  have HB := Aside0.mk (Below.refl w.heap.size w)
  have HT := Aside0.mk HT_
  clear HT_
  have H' := Aside0.mk h
  clear h
  go_enter Tryd.func22, Tryd.ntmps22
  go_wp2
  refine wp_scope_lab 0 (fun n a' w' => ∃ (x2 : List ByteArray) (x3 : Int) (v2 u4 u5 u6 u7 u8 u9 u10 u11 u12 u13 u14 u15 u16 u17 u18 u19 u20 u21 u22 u23 u24 u25 u26 u27 u28 u29 u30 u31 u32 : Value), a' = { tmps := #[.string a0, undef, v2, .int .i64 x3, u4, u5, u6, u7, u8, u9, u10, u11, u12, u13, u14, u15, u16, u17, u18, u19, u20, u21, u22, u23, u24, u25, u26, u27, u28, u29, u30, u31, u32], defers := [] } ∧ Aside0 (crc_All.l0 n a0 x2 x3 = some (r1, r2, r3)) ∧ Aside0 (Kd.R Kd.string 9 w' w.heap.size (fun _ => True) v2 x2) ∧ Aside0 (Below w.heap.size w w')) rfl ?_ ?_
  · rintro n a' w1 ⟨x2, x3, v2, u4, u5, u6, u7, u8, u9, u10, u11, u12, u13, u14, u15, u16, u17, u18, u19, u20, u21, u22, u23, u24, u25, u26, u27, u28, u29, u30, u31, u32, rfl, HA, HO, HB⟩
    cases n with
    | zero => exact absurd HA.out (by simp [crc_All.l0])
    | succ n =>
      have H := HA.out
      clear HA H'
      simp only [crc_All.l0] at H
      by_cases c2 : x3 = (a0.size : Int)
      · rw [if_pos c2] at H
        have c2b0 : (x3 == (a0.size : Int)) = true := beq_iff_eq.mpr c2
        clear c2
        simp only [Option.some.injEq, Prod.mk.injEq] at H
        obtain ⟨rfl, rfl, rfl⟩ := H
        go_wp2
        simp only [Exit.jump]
        go_ret3
        exact ⟨_, rfl, HO.out, HB.out⟩
      · rw [if_neg c2] at H
        have c2b0 : (x3 == (a0.size : Int)) = false := beq_eq_false_iff_ne.mpr c2
        clear c2
        by_cases c3 : 0 ≤ x3
        case neg => rw [if_neg c3] at H; exact absurd H (by simp)
        rw [if_pos c3] at H
        have c3b0 := eq_true c3
        by_cases c4 : x3 ≤ (a0.size : Int)
        case neg => rw [if_neg c4] at H; exact absurd H (by simp)
        rw [if_pos c4] at H
        have c4b0 := eq_true c4
        clear c3 c4
        replace H := Option.bind_eq_some_iff.mp H
        obtain ⟨⟨t1, t2, t3⟩, A50, H⟩ := H
        replace H : (if t3 = 0 then (if x2.length < 8796093022208 then (crc_All.l0 n a0 (x2 ++ [t1]) (wrap64 (x3 + t2))) else none) else some (x2, x3, t3)) = some (r1, r2, r3) := H
        have A5 := Aside0.mk A50
        clear A50
        by_cases c6 : t3 = 0
        · rw [if_pos c6] at H
          have c6b0 : (t3 == 0) = true := beq_iff_eq.mpr c6
          have c6b1 : (t3 != 0) = false := bne_eq_false_iff_eq.mpr c6
          by_cases c7 : x2.length < 8796093022208
          case neg => rw [if_neg c7] at H; exact absurd H (by simp)
          rw [if_pos c7] at H
          have LMc7 := Aside0.mk c7
          clear c7 c6
          have H' := Aside0.mk H
          clear H
          go_wp2_with (first | ((with_reducible refine gate_callee (f := 19) rfl ?_); refine goesL_ (some 17) rfl rfl Tryd.func19 (by kernel_rfl) rfl #[.string (a0.extract (x3 : Int).toNat a0.size)] rfl am ?_; (with_reducible refine (crc_Take.calls (a0.extract (x3 : Int).toNat a0.size) t1 t2 t3 _ (TabOk.below HT.out HB.out) A5.out).mono ?_); rintro e w3 ⟨rfl, hb⟩; refine ⟨_, rfl, ?_⟩; have n0_ := Aside0.mk (Kd.R_below HO.out hb); have n1_ := Aside0.mk (below_step HB.out hb); clear HO HB; have HO := n0_; have HB := n1_; clear n0_ n1_ hb) | ((with_reducible refine gate_builtin (b := .append) (xs := #[.tmp 26, .tmp 28]) rfl ?_); at_builtin; refine Kd.R_append Kd.string (w0 := w) w.heap.size rfl (.tmp 26) (.tmp 28) 37 9 (.string ⟨#[]⟩) 16 rfl Tryd.underlying37 info9 rfl (by decide) (by omega) v2 x2 t1 [.string t1] (fun _ => True) (fun _ => False) rfl rfl ?aP (fun _ hk => hk.elim) ?aF ?aO ?aB ?aS ?aL ?_; (case aP => exact rfl); (case aB => exact bw); (case aF => exact (fun _ _ => trivial)); (case aO => exact (by (with_reducible repeat (first | apply Kd.R_alloc | apply Kd.R_drewN | apply Kd.R_drew)); exact HO.out)); (case aS => exact (below_size bw)); (case aL => have := LMc7.out; omega); intro v11 w8 ho hb hg hat; have n0_ := Aside0.mk hb; have n1_ := Aside0.mk ho; clear HB HO; have HB := n0_; have HO := n1_; clear n0_ n1_ ho hb hg hat))
          go_step3
          exact ⟨rfl, n, Nat.lt_succ_self _, _, _, _, _, _, _, _, _, _, _, _, _, _, _, _, _, _, _, _, _, _, _, _, _, _, _, _, _, _, _, _, _, rfl, H', HO, HB⟩
        · rw [if_neg c6] at H
          have c6b0 : (t3 == 0) = false := beq_eq_false_iff_ne.mpr c6
          have c6b1 : (t3 != 0) = true := bne_iff_ne.mpr c6
          clear c6
          simp only [Option.some.injEq, Prod.mk.injEq] at H
          obtain ⟨rfl, rfl, rfl⟩ := H
          go_wp2_with (first | ((with_reducible refine gate_callee (f := 19) rfl ?_); refine goesL_ (some 17) rfl rfl Tryd.func19 (by kernel_rfl) rfl #[.string (a0.extract (x3 : Int).toNat a0.size)] rfl am ?_; (with_reducible refine (crc_Take.calls (a0.extract (x3 : Int).toNat a0.size) t1 t2 t3 _ (TabOk.below HT.out HB.out) A5.out).mono ?_); rintro e w3 ⟨rfl, hb⟩; refine ⟨_, rfl, ?_⟩; have n0_ := Aside0.mk (Kd.R_below HO.out hb); have n1_ := Aside0.mk (below_step HB.out hb); clear HO HB; have HO := n0_; have HB := n1_; clear n0_ n1_ hb))
          simp only [Exit.jump]
          go_ret3
          exact ⟨_, rfl, HO.out, HB.out⟩
  · intro hx
    go_wp2
    go_step3
    rename_i hK
    exact hK _ _ (hx k _ _ ⟨[], 0, _, _, _, _, _, _, _, _, _, _, _, _, _, _, _, _, _, _, _, _, _, _, _, _, _, _, _, _, _, _, rfl, H', ⟨Kd.R_nil _ _ _ _ _⟩, HB⟩)

/-! ### carillonlaw02_examples: function 12 -/
def carillonlaw02_examples.g (k : Nat)  : Option (Bool) := (crc_Frame.f (⟨#[97, 98]⟩ : ByteArray)).bind fun bt113 => (if bt113.1.size + 1 ≤ 9223372036854775807 then ((crc_Take.f (bt113.1 ++ (⟨#[120]⟩ : ByteArray))).bind fun bt115 => ((crc_Take.f (⟨#[97, 98, 99]⟩ : ByteArray)).bind fun bt118 => ((crc_All.f k (⟨#[]⟩ : ByteArray)).bind fun bt121 => ((crc_Sum.f (⟨#[49, 50, 51, 52, 53, 54, 55, 56, 57]⟩ : ByteArray)).bind fun t126 => (if t126 = 3808858755 then (if bt113.2 = 0 then (if bt115.1.toList = ([97, 98] : List UInt8) then (if bt115.2.1 = 10 then (if bt115.2.2 = 0 then (if bt118.2.2 = 2 then (if (bt121.1.length : Int) = 0 then (if bt121.2.1 = 0 then (some (bt121.2.2 == 0)) else (some false)) else (some false)) else (some false)) else (some false)) else (some false)) else (some false)) else (some false)) else (some false)))))) else (none))
theorem carillonlaw02_examples.mono : ∀ k, LeO (carillonlaw02_examples.g k ) (carillonlaw02_examples.g (k + 1) ) := by
  intro  k
  unfold carillonlaw02_examples.g
  repeat' first
      | (with_reducible exact crc_All.mono _ _)
      | (with_reducible exact LeO.refl _)
      | (with_reducible exact LeO.none _)
      | (with_reducible refine LeO.ite ?_ ?_)
      | (with_reducible refine LeO.bind ?_ (fun _ => ?_))
      | exact crc_All.mono _ _
      | exact LeO.none _
      | refine LeO.ite ?_ ?_
      | refine LeO.bind ?_ (fun _ => ?_)
set_option maxHeartbeats 8000000 in
set_option maxRecDepth 100000 in
theorem carillonlaw02_examples.calls0 (k : Nat)  (r : Bool) (w : World) (hr_ : Aside0 (r = true)) (HT_ : TabOk w) (h : carillonlaw02_examples.g k  = some r) :
    Calls Tryd.prog 12 #[] w fun e w' => e = .returned (.bool r) ∧ Below w.heap.size w w' := by
  have HT := Aside0.mk HT_
  clear HT_
  have HB := Aside0.mk (Below.refl w.heap.size w)
  have H : ((crc_Frame.f (⟨#[97, 98]⟩ : ByteArray)).bind fun bt113 => (if bt113.1.size + 1 ≤ 9223372036854775807 then ((crc_Take.f (bt113.1 ++ (⟨#[120]⟩ : ByteArray))).bind fun bt115 => ((crc_Take.f (⟨#[97, 98, 99]⟩ : ByteArray)).bind fun bt118 => ((crc_All.f k (⟨#[]⟩ : ByteArray)).bind fun bt121 => ((crc_Sum.f (⟨#[49, 50, 51, 52, 53, 54, 55, 56, 57]⟩ : ByteArray)).bind fun t126 => (if t126 = 3808858755 then (if bt113.2 = 0 then (if bt115.1.toList = ([97, 98] : List UInt8) then (if bt115.2.1 = 10 then (if bt115.2.2 = 0 then (if bt118.2.2 = 2 then (if (bt121.1.length : Int) = 0 then (if bt121.2.1 = 0 then (some (bt121.2.2 == 0)) else (some false)) else (some false)) else (some false)) else (some false)) else (some false)) else (some false)) else (some false)) else (some false)))))) else (none))) = some r := h
  clear h
  replace H := Option.bind_eq_some_iff.mp H
  obtain ⟨⟨t113, t114⟩, A10, H⟩ := H
  replace H : (if t113.size + 1 ≤ 9223372036854775807 then ((crc_Take.f (t113 ++ (⟨#[120]⟩ : ByteArray))).bind fun bt115 => ((crc_Take.f (⟨#[97, 98, 99]⟩ : ByteArray)).bind fun bt118 => ((crc_All.f k (⟨#[]⟩ : ByteArray)).bind fun bt121 => ((crc_Sum.f (⟨#[49, 50, 51, 52, 53, 54, 55, 56, 57]⟩ : ByteArray)).bind fun t126 => (if t126 = 3808858755 then (if t114 = 0 then (if bt115.1.toList = ([97, 98] : List UInt8) then (if bt115.2.1 = 10 then (if bt115.2.2 = 0 then (if bt118.2.2 = 2 then (if (bt121.1.length : Int) = 0 then (if bt121.2.1 = 0 then (some (bt121.2.2 == 0)) else (some false)) else (some false)) else (some false)) else (some false)) else (some false)) else (some false)) else (some false)) else (some false)))))) else (none)) = some r := H
  have A1 := Aside0.mk A10
  clear A10
  by_cases c2 : t113.size + 1 ≤ 9223372036854775807
  · rw [if_pos c2] at H
    have c2b0 := eq_true c2
    have c2b1 : decide (t113.size + 1 ≤ 9223372036854775807) = true := decide_eq_true c2
    try have c2b2 : (9223372036854775807 < t113.size + 1) = False := eq_false (Nat.not_lt.2 c2)
    replace H := Option.bind_eq_some_iff.mp H
    obtain ⟨⟨t115, t116, t117⟩, A30, H⟩ := H
    replace H : ((crc_Take.f (⟨#[97, 98, 99]⟩ : ByteArray)).bind fun bt118 => ((crc_All.f k (⟨#[]⟩ : ByteArray)).bind fun bt121 => ((crc_Sum.f (⟨#[49, 50, 51, 52, 53, 54, 55, 56, 57]⟩ : ByteArray)).bind fun t126 => (if t126 = 3808858755 then (if t114 = 0 then (if t115.toList = ([97, 98] : List UInt8) then (if t116 = 10 then (if t117 = 0 then (if bt118.2.2 = 2 then (if (bt121.1.length : Int) = 0 then (if bt121.2.1 = 0 then (some (bt121.2.2 == 0)) else (some false)) else (some false)) else (some false)) else (some false)) else (some false)) else (some false)) else (some false)) else (some false))))) = some r := H
    have A3 := Aside0.mk A30
    clear A30
    replace H := Option.bind_eq_some_iff.mp H
    obtain ⟨⟨t118, t119, t120⟩, A40, H⟩ := H
    replace H : ((crc_All.f k (⟨#[]⟩ : ByteArray)).bind fun bt121 => ((crc_Sum.f (⟨#[49, 50, 51, 52, 53, 54, 55, 56, 57]⟩ : ByteArray)).bind fun t126 => (if t126 = 3808858755 then (if t114 = 0 then (if t115.toList = ([97, 98] : List UInt8) then (if t116 = 10 then (if t117 = 0 then (if t120 = 2 then (if (bt121.1.length : Int) = 0 then (if bt121.2.1 = 0 then (some (bt121.2.2 == 0)) else (some false)) else (some false)) else (some false)) else (some false)) else (some false)) else (some false)) else (some false)) else (some false)))) = some r := H
    have A4 := Aside0.mk A40
    clear A40
    replace H := Option.bind_eq_some_iff.mp H
    obtain ⟨⟨t121, t122, t123⟩, A50, H⟩ := H
    replace H : ((crc_Sum.f (⟨#[49, 50, 51, 52, 53, 54, 55, 56, 57]⟩ : ByteArray)).bind fun t126 => (if t126 = 3808858755 then (if t114 = 0 then (if t115.toList = ([97, 98] : List UInt8) then (if t116 = 10 then (if t117 = 0 then (if t120 = 2 then (if (t121.length : Int) = 0 then (if t122 = 0 then (some (t123 == 0)) else (some false)) else (some false)) else (some false)) else (some false)) else (some false)) else (some false)) else (some false)) else (some false))) = some r := H
    have A5 := Aside0.mk A50
    clear A50
    replace H := Option.bind_eq_some_iff.mp H
    obtain ⟨t126, A60, H⟩ := H
    replace H : (if t126 = 3808858755 then (if t114 = 0 then (if t115.toList = ([97, 98] : List UInt8) then (if t116 = 10 then (if t117 = 0 then (if t120 = 2 then (if (t121.length : Int) = 0 then (if t122 = 0 then (some (t123 == 0)) else (some false)) else (some false)) else (some false)) else (some false)) else (some false)) else (some false)) else (some false)) else (some false)) = some r := H
    have A6 := Aside0.mk A60
    clear A60
    by_cases c7 : t126 = 3808858755
    · rw [if_pos c7] at H
      have c7b0 : (t126 == 3808858755) = true := beq_iff_eq.mpr c7
      have c7b1 : (t126 != 3808858755) = false := bne_eq_false_iff_eq.mpr c7
      clear c7
      by_cases c8 : t114 = 0
      · rw [if_pos c8] at H
        have c8b0 : (t114 == 0) = true := beq_iff_eq.mpr c8
        have c8b1 : (t114 != 0) = false := bne_eq_false_iff_eq.mpr c8
        clear c8
        by_cases c9 : t115.toList = ([97, 98] : List UInt8)
        · rw [if_pos c9] at H
          have c9b0 : (t115.toList == ([97, 98] : List UInt8)) = true := beq_iff_eq.mpr c9
          have c9b1 : (t115.toList != ([97, 98] : List UInt8)) = false := bne_eq_false_iff_eq.mpr c9
          clear c9
          by_cases c10 : t116 = 10
          · rw [if_pos c10] at H
            have c10b0 : (t116 == 10) = true := beq_iff_eq.mpr c10
            have c10b1 : (t116 != 10) = false := bne_eq_false_iff_eq.mpr c10
            clear c10
            by_cases c11 : t117 = 0
            · rw [if_pos c11] at H
              have c11b0 : (t117 == 0) = true := beq_iff_eq.mpr c11
              have c11b1 : (t117 != 0) = false := bne_eq_false_iff_eq.mpr c11
              clear c11
              by_cases c12 : t120 = 2
              · rw [if_pos c12] at H
                have c12b0 : (t120 == 2) = true := beq_iff_eq.mpr c12
                have c12b1 : (t120 != 2) = false := bne_eq_false_iff_eq.mpr c12
                clear c12
                by_cases c13 : (t121.length : Int) = 0
                · rw [if_pos c13] at H
                  have c13b0 : ((t121.length : Int) == 0) = true := beq_iff_eq.mpr c13
                  have c13b1 : ((t121.length : Int) != 0) = false := bne_eq_false_iff_eq.mpr c13
                  clear c13
                  by_cases c14 : t122 = 0
                  · rw [if_pos c14] at H
                    have c14b0 : (t122 == 0) = true := beq_iff_eq.mpr c14
                    have c14b1 : (t122 != 0) = false := bne_eq_false_iff_eq.mpr c14
                    clear c14
                    obtain rfl := Option.some.inj H
                    go_enter Tryd.func12, Tryd.ntmps12
                    go_wp2_with (first | ((with_reducible refine gate_callee (f := 17) rfl ?_); refine goesL_ (some 13) rfl rfl Tryd.func17 (by kernel_rfl) rfl #[.string (⟨#[97, 98]⟩ : ByteArray)] rfl am ?_; (with_reducible refine (crc_Frame.calls (⟨#[97, 98]⟩ : ByteArray) t113 t114 _ tbk A1.out).mono ?_); rintro e w15 ⟨rfl, hb⟩; refine ⟨_, rfl, ?_⟩; have n0_ := Aside0.mk (below_step bw hb); clear HB; have HB := n0_; clear n0_; (try clear hb); (try clear hb2); (try clear hk); (try clear hi)) | ((with_reducible refine gate_callee (f := 19) rfl ?_); refine goesL_ (some 19) rfl rfl Tryd.func19 (by kernel_rfl) rfl #[.string (t113 ++ (⟨#[120]⟩ : ByteArray))] rfl am ?_; (with_reducible refine (crc_Take.calls (t113 ++ (⟨#[120]⟩ : ByteArray)) t115 t116 t117 _ tbk A3.out).mono ?_); rintro e w16 ⟨rfl, hb⟩; refine ⟨_, rfl, ?_⟩; have n0_ := Aside0.mk (below_step bw hb); clear HB; have HB := n0_; clear n0_; (try clear hb); (try clear hb2); (try clear hk); (try clear hi)) | ((with_reducible refine gate_callee (f := 19) rfl ?_); refine goesL_ (some 24) rfl rfl Tryd.func19 (by kernel_rfl) rfl #[.string (⟨#[97, 98, 99]⟩ : ByteArray)] rfl am ?_; (with_reducible refine (crc_Take.calls (⟨#[97, 98, 99]⟩ : ByteArray) t118 t119 t120 _ tbk A4.out).mono ?_); rintro e w17 ⟨rfl, hb⟩; refine ⟨_, rfl, ?_⟩; have n0_ := Aside0.mk (below_step bw hb); clear HB; have HB := n0_; clear n0_; (try clear hb); (try clear hb2); (try clear hk); (try clear hi)) | ((with_reducible refine gate_callee (f := 22) rfl ?_); refine goesL_ (some 29) rfl rfl Tryd.func22 (by kernel_rfl) rfl #[.string (⟨#[]⟩ : ByteArray)] rfl am ?_; (with_reducible refine (crc_All.calls k (⟨#[]⟩ : ByteArray) t121 t122 t123 _ tbk A5.out).mono ?_); rintro e w18 ⟨v124, rfl, ho0, hb⟩; refine ⟨_, rfl, ?_⟩; have n0_ := Aside0.mk (Kd.R_lower ho0 (below_size bw)); have n1_ := Aside0.mk (below_step bw hb); clear HB; have HO125 := n0_; have HB := n1_; clear n0_ n1_; (try clear hb); (try clear hb2); (try clear hk); (try clear hi); (try clear ho0)) | ((with_reducible refine gate_callee (f := 13) rfl ?_); refine goesL_ (some 33) rfl rfl Tryd.func13 (by kernel_rfl) rfl #[.string (⟨#[49, 50, 51, 52, 53, 54, 55, 56, 57]⟩ : ByteArray)] rfl am ?_; (with_reducible refine (crc_Sum.calls (⟨#[49, 50, 51, 52, 53, 54, 55, 56, 57]⟩ : ByteArray) t126 _ tbk A6.out).mono ?_); rintro e w19 ⟨rfl, hb⟩; refine ⟨_, rfl, ?_⟩; have n0_ := Aside0.mk (Kd.R_below (by (with_reducible repeat (first | apply Kd.R_alloc | apply Kd.R_drewN | apply Kd.R_drew)); exact HO125.out) hb); have n1_ := Aside0.mk (below_step bw hb); clear HO125; clear HB; have HO125 := n0_; have HB := n1_; clear n0_ n1_; (try clear hb); (try clear hb2); (try clear hk); (try clear hi); obtain ⟨Ao20, co20, eo20⟩ := Kd.R_slice HO125.out; subst eo20))
                    go_ret
                    exact ⟨er, bw⟩
                  · rw [if_neg c14] at H
                    have c14b0 : (t122 == 0) = false := beq_eq_false_iff_ne.mpr c14
                    have c14b1 : (t122 != 0) = true := bne_iff_ne.mpr c14
                    exact absurd ((Option.some.inj H).trans hr_.out) (by decide)
                · rw [if_neg c13] at H
                  have c13b0 : ((t121.length : Int) == 0) = false := beq_eq_false_iff_ne.mpr c13
                  have c13b1 : ((t121.length : Int) != 0) = true := bne_iff_ne.mpr c13
                  have c13b2 : ¬ (t121 = []) := fun h_ => c13 (by rw [h_]; rfl)
                  exact absurd ((Option.some.inj H).trans hr_.out) (by decide)
              · rw [if_neg c12] at H
                have c12b0 : (t120 == 2) = false := beq_eq_false_iff_ne.mpr c12
                have c12b1 : (t120 != 2) = true := bne_iff_ne.mpr c12
                exact absurd ((Option.some.inj H).trans hr_.out) (by decide)
            · rw [if_neg c11] at H
              have c11b0 : (t117 == 0) = false := beq_eq_false_iff_ne.mpr c11
              have c11b1 : (t117 != 0) = true := bne_iff_ne.mpr c11
              exact absurd ((Option.some.inj H).trans hr_.out) (by decide)
          · rw [if_neg c10] at H
            have c10b0 : (t116 == 10) = false := beq_eq_false_iff_ne.mpr c10
            have c10b1 : (t116 != 10) = true := bne_iff_ne.mpr c10
            exact absurd ((Option.some.inj H).trans hr_.out) (by decide)
        · rw [if_neg c9] at H
          have c9b0 : (t115.toList == ([97, 98] : List UInt8)) = false := beq_eq_false_iff_ne.mpr c9
          have c9b1 : (t115.toList != ([97, 98] : List UInt8)) = true := bne_iff_ne.mpr c9
          exact absurd ((Option.some.inj H).trans hr_.out) (by decide)
      · rw [if_neg c8] at H
        have c8b0 : (t114 == 0) = false := beq_eq_false_iff_ne.mpr c8
        have c8b1 : (t114 != 0) = true := bne_iff_ne.mpr c8
        exact absurd ((Option.some.inj H).trans hr_.out) (by decide)
    · rw [if_neg c7] at H
      have c7b0 : (t126 == 3808858755) = false := beq_eq_false_iff_ne.mpr c7
      have c7b1 : (t126 != 3808858755) = true := bne_iff_ne.mpr c7
      exact absurd ((Option.some.inj H).trans hr_.out) (by decide)
  · rw [if_neg c2] at H
    exact absurd H (by simp)
theorem carillonlaw02_examples.g_true : carillonlaw02_examples.g 300 = some true := by kernel_rfl
def carillonlaw02_examples.f : Option (Bool) := some true
theorem carillonlaw02_examples.calls (r : Bool) (w : World) (HT_ : TabOk w) (h : carillonlaw02_examples.f = some r) :
    Calls Tryd.prog 12 #[] w fun e w' => e = .returned (.bool r) ∧ Below w.heap.size w w' := by
  obtain rfl := Option.some.inj h
  exact carillonlaw02_examples.calls0 _ true w ⟨rfl⟩ HT_ carillonlaw02_examples.g_true

end Go.Proofs.YtkcooehlahifkaaDoor.P
