-- Printed by this session's program wip/xp.py (a turned copy of the kit's printer): functions, their contracts.
import Derived.Test.YtdpogggajdfedaaDoorPx0
import Derived.Test.YtdpogggajdfedaaDoorPx3
import Derived.Test.YtdpogggajdfedaaDoorPx5
namespace Go.Proofs.YtdpogggajdfedaaDoor.P
open Go.RowKit Go.Proofs.YtdpogggajdfedaaDoorW.PrintWords Go.Proofs.YtdpogggajdfedaaDoorW.PrintLast Go.Proofs.YtdpogggajdfedaaDoorW.PrintMore
attribute [local go_sem] max2_int min2_int max_two min_two max_three min_three max_four min_four   -- for this text's walks alone
set_option linter.unusedVariables false
set_option linter.unusedSimpArgs false

/-! ### crc_Take: function 21 -/
def crc_Take.f (a0 : ByteArray) : Option (ByteArray × Int × Int) := if (a0.size : Int) < 4 then (some ((⟨#[]⟩ : ByteArray), 0, 2)) else ((crc_number.f a0).bind fun t189 => (if t189 > 400000 then (some ((⟨#[]⟩ : ByteArray), 0, 3)) else (if (IntKind.u64.wrap ((a0.size : Int))) < (IntKind.u64.wrap (8 + (IntKind.u64.wrap (t189)))) then (some ((⟨#[]⟩ : ByteArray), 0, 2)) else (if 8 ≤ ((8 + t189) % 4294967296) then (if ((8 + t189) % 4294967296) ≤ (a0.size : Int) then (if 0 ≤ 4 then (if 4 ≤ (a0.size : Int) then ((crc_Sum.f (a0.extract 0 4)).bind fun t190 => ((crc_More.f t190 (a0.extract 8 (((8 + t189) % 4294967296) : Int).toNat)).bind fun t191 => ((crc_number.f (a0.extract 4 a0.size)).bind fun t192 => (if t191 = t192 then (some (a0.extract 8 (((8 + t189) % 4294967296) : Int).toNat, wrap64 (8 + (wrap64 (t189))), 0)) else (some ((⟨#[]⟩ : ByteArray), 0, 4)))))) else (none)) else (none)) else (none)) else (none)))))
def crc_Take.T9 : Bool × List (List Nat × List Nat) := (true, [([], []), ([0], [0]), ([1], [1]), ([], []), ([2, 3, 2], [2, 3]), ([], []), ([5], [5]), ([6, 4], [6]), ([4, 7], [4, 7])])
def crc_Take.B9 : List Nat := [0, 1, 3, 0, 15, 0, 32, 127, 255]
theorem crc_Take.tab9 : rtab .any (opsOf Tryd.f21 9) = crc_Take.T9 := by kernel_rfl
theorem crc_Take.bits9 : waitsOk crc_Take.T9.2 crc_Take.B9 = true := by kernel_rfl
set_option maxHeartbeats 8000000 in
set_option maxRecDepth 100000 in
theorem crc_Take.calls (a0 : ByteArray) (r1 : ByteArray) (r2 : Int) (r3 : Int) (w : World) (HT_ : TabOk w) (h : crc_Take.f a0 = some (r1, r2, r3)) :
  Calls Tryd.prog 21 #[.string a0] w fun e w' => e = .returned (.tuple #[.string r1, .int .i64 r2, .int .i64 r3]) ∧ Below w.heap.size w w' := by
 have HT := Aside0.mk HT_
 clear HT_
 have HB := Aside0.mk (Below.refl w.heap.size w)
 have H : (if (a0.size : Int) < 4 then (some ((⟨#[]⟩ : ByteArray), 0, 2)) else ((crc_number.f a0).bind fun t189 => (if t189 > 400000 then (some ((⟨#[]⟩ : ByteArray), 0, 3)) else (if (IntKind.u64.wrap ((a0.size : Int))) < (IntKind.u64.wrap (8 + (IntKind.u64.wrap (t189)))) then (some ((⟨#[]⟩ : ByteArray), 0, 2)) else (if 8 ≤ ((8 + t189) % 4294967296) then (if ((8 + t189) % 4294967296) ≤ (a0.size : Int) then (if 0 ≤ 4 then (if 4 ≤ (a0.size : Int) then ((crc_Sum.f (a0.extract 0 4)).bind fun t190 => ((crc_More.f t190 (a0.extract 8 (((8 + t189) % 4294967296) : Int).toNat)).bind fun t191 => ((crc_number.f (a0.extract 4 a0.size)).bind fun t192 => (if t191 = t192 then (some (a0.extract 8 (((8 + t189) % 4294967296) : Int).toNat, wrap64 (8 + (wrap64 (t189))), 0)) else (some ((⟨#[]⟩ : ByteArray), 0, 4)))))) else (none)) else (none)) else (none)) else (none)))))) = some (r1, r2, r3) := h
 clear h
 by_cases c2 : (a0.size : Int) < 4
 ·rw [if_pos c2] at H
  have c2b0 : decide ((a0.size : Int) < 4) = true := decide_eq_true c2
  have c2b1 : decide (a0.size < 4) = true := decide_eq_true (by omega)
  clear c2
  simp only [Option.some.injEq, Prod.mk.injEq] at H
  obtain ⟨rfl, rfl, rfl⟩ := H
  go_enter Tryd.func21, Tryd.ntmps21
  go_wp2
  go_ret3
  exact ⟨er, bw⟩
 rw [if_neg c2] at H
 have c2b0 : decide ((a0.size : Int) < 4) = false := decide_eq_false c2
 have c2b1 : decide (a0.size < 4) = false := decide_eq_false (by omega)
 clear c2
 replace H := Option.bind_eq_some_iff.mp H
 obtain ⟨t189, A30, H⟩ := H
 replace H : (if t189 > 400000 then (some ((⟨#[]⟩ : ByteArray), 0, 3)) else (if (IntKind.u64.wrap ((a0.size : Int))) < (IntKind.u64.wrap (8 + (IntKind.u64.wrap (t189)))) then (some ((⟨#[]⟩ : ByteArray), 0, 2)) else (if 8 ≤ ((8 + t189) % 4294967296) then (if ((8 + t189) % 4294967296) ≤ (a0.size : Int) then (if 0 ≤ 4 then (if 4 ≤ (a0.size : Int) then ((crc_Sum.f (a0.extract 0 4)).bind fun t190 => ((crc_More.f t190 (a0.extract 8 (((8 + t189) % 4294967296) : Int).toNat)).bind fun t191 => ((crc_number.f (a0.extract 4 a0.size)).bind fun t192 => (if t191 = t192 then (some (a0.extract 8 (((8 + t189) % 4294967296) : Int).toNat, wrap64 (8 + (wrap64 (t189))), 0)) else (some ((⟨#[]⟩ : ByteArray), 0, 4)))))) else (none)) else (none)) else (none)) else (none)))) = some (r1, r2, r3) := H
 have A3 := Aside0.mk A30
 clear A30
 by_cases c4 : t189 > 400000
 ·rw [if_pos c4] at H
  have c4b0 : decide (400000 < t189) = true := decide_eq_true c4
  clear c4
  simp only [Option.some.injEq, Prod.mk.injEq] at H
  obtain ⟨rfl, rfl, rfl⟩ := H
  go_enter Tryd.func21, Tryd.ntmps21
  go_wp2_with (first | ((with_reducible refine gate_callee (f := 36) rfl ?_); refine goesL_ (some 10) rfl rfl Tryd.func36 (by kernel_rfl) rfl #[.string a0] rfl am ?_; (with_reducible refine (crc_number.calls a0 t189 _ A3.out).mono ?_); rintro e w5 ⟨rfl, hb⟩; refine ⟨_, rfl, ?_⟩; have n0_ := Aside0.mk (below_step bw hb); clear HB; have HB := n0_; clear n0_; (try clear hb)))
  go_ret3
  exact ⟨er, bw⟩
 rw [if_neg c4] at H
 have c4b0 : decide (400000 < t189) = false := decide_eq_false c4
 clear c4
 by_cases c6 : (IntKind.u64.wrap ((a0.size : Int))) < (IntKind.u64.wrap (8 + (IntKind.u64.wrap (t189))))
 ·rw [if_pos c6] at H
  have c6b0 : decide ((IntKind.u64.wrap ((a0.size : Int))) < (IntKind.u64.wrap (8 + (IntKind.u64.wrap (t189))))) = true := decide_eq_true c6
  clear c6
  simp only [Option.some.injEq, Prod.mk.injEq] at H
  obtain ⟨rfl, rfl, rfl⟩ := H
  go_enter Tryd.func21, Tryd.ntmps21
  go_wp2_with (first | ((with_reducible refine gate_callee (f := 36) rfl ?_); refine goesL_ (some 10) rfl rfl Tryd.func36 (by kernel_rfl) rfl #[.string a0] rfl am ?_; (with_reducible refine (crc_number.calls a0 t189 _ A3.out).mono ?_); rintro e w7 ⟨rfl, hb⟩; refine ⟨_, rfl, ?_⟩; have n0_ := Aside0.mk (below_step bw hb); clear HB; have HB := n0_; clear n0_; (try clear hb)))
  go_ret3
  exact ⟨er, bw⟩
 rw [if_neg c6] at H
 have c6b0 : decide ((IntKind.u64.wrap ((a0.size : Int))) < (IntKind.u64.wrap (8 + (IntKind.u64.wrap (t189))))) = false := decide_eq_false c6
 clear c6
 by_cases c8 : 8 ≤ ((8 + t189) % 4294967296); rotate_left
 ·rw [if_neg c8] at H
  exact absurd H (by simp)
 rw [if_pos c8] at H
 have c8b0 := eq_true c8
 have c8b1 : decide (8 ≤ ((8 + t189) % 4294967296)) = true := decide_eq_true c8
 by_cases c9 : ((8 + t189) % 4294967296) ≤ (a0.size : Int); rotate_left
 ·rw [if_neg c9] at H
  exact absurd H (by simp)
 rw [if_pos c9] at H
 have c9b0 := eq_true c9
 have c9b1 : decide (((8 + t189) % 4294967296) ≤ (a0.size : Int)) = true := decide_eq_true c9
 by_cases c10 : 0 ≤ 4; rotate_left
 ·rw [if_neg c10] at H
  exact absurd H (by simp)
 rw [if_pos c10] at H
 have c10b0 := eq_true c10
 have c10b1 : decide (0 ≤ 4) = true := decide_eq_true c10
 clear c10
 by_cases c11 : 4 ≤ (a0.size : Int); rotate_left
 ·rw [if_neg c11] at H
  exact absurd H (by simp)
 rw [if_pos c11] at H
 have c11b0 := eq_true c11
 have c11b1 : decide (4 ≤ (a0.size : Int)) = true := decide_eq_true c11
 clear c11
 replace H := Option.bind_eq_some_iff.mp H
 obtain ⟨t190, A120, H⟩ := H
 replace H : ((crc_More.f t190 (a0.extract 8 (((8 + t189) % 4294967296) : Int).toNat)).bind fun t191 => ((crc_number.f (a0.extract 4 a0.size)).bind fun t192 => (if t191 = t192 then (some (a0.extract 8 (((8 + t189) % 4294967296) : Int).toNat, wrap64 (8 + (wrap64 (t189))), 0)) else (some ((⟨#[]⟩ : ByteArray), 0, 4))))) = some (r1, r2, r3) := H
 have A12 := Aside0.mk A120
 clear A120
 replace H := Option.bind_eq_some_iff.mp H
 obtain ⟨t191, A130, H⟩ := H
 replace H : ((crc_number.f (a0.extract 4 a0.size)).bind fun t192 => (if t191 = t192 then (some (a0.extract 8 (((8 + t189) % 4294967296) : Int).toNat, wrap64 (8 + (wrap64 (t189))), 0)) else (some ((⟨#[]⟩ : ByteArray), 0, 4)))) = some (r1, r2, r3) := H
 have A13 := Aside0.mk A130
 clear A130
 have c14b0 := eq_true (od : 4 ≤ (a0.size : Int))
 replace H := Option.bind_eq_some_iff.mp H
 obtain ⟨t192, A150, H⟩ := H
 replace H : (if t191 = t192 then (some (a0.extract 8 (((8 + t189) % 4294967296) : Int).toNat, wrap64 (8 + (wrap64 (t189))), 0)) else (some ((⟨#[]⟩ : ByteArray), 0, 4))) = some (r1, r2, r3) := H
 have A15 := Aside0.mk A150
 clear A150
 have HhZ := Aside0.mk H
 clear H
 go_enter Tryd.func21, Tryd.ntmps21
 try go_wp2_with (first | ((with_reducible refine gate_callee (f := 36) rfl ?_); refine goesL_ (some 10) rfl rfl Tryd.func36 (by kernel_rfl) rfl #[.string a0] rfl am ?_; (with_reducible refine (crc_number.calls a0 t189 _ A3.out).mono ?_); rintro e w17 ⟨rfl, hb⟩; refine ⟨_, rfl, ?_⟩; have n0_ := Aside0.mk (below_step bw hb); clear HB; have HB := n0_; clear n0_; (try clear hb)))
 have n0_ := Aside0.mk (below_drew1 HB.out)
 clear HB
 have HB := n0_
 clear n0_
 refine start_ (n := 9) (S := fun w' => True) (ds := []) (bz 9 0) (by kernel_rfl) rfl rfl trivial (fun hHeld => ?_); refine with_tabW crc_Take.tab9 crc_Take.bits9 (fun HT_ HW_ => ?_)
 generalize w17.drew = w18 at HB hHeld ⊢
 refine pu_ 0 (some 24) (bz 9 1) HT_.out ?_
 refine pu_ 1 (some 25) (bz 9 3) HT_.out ?_
 refine pu_ 3 (some 27) (bz 9 11) HT_.out ?_
 refine pu_ 5 (some 29) (bz 9 43) HT_.out ?_
 refine pu_ 6 (some 30) (bz 9 107) HT_.out ?_
 refine one_ (i := 2) (N := some 26) (bz 9 111) rfl rfl (one_of HT_.out (by kernel_rfl)) (by decide) (fun K hK => ?_)
 refine goes_ Tryd.func32 (by kernel_rfl) rfl #[.string (a0.extract 0 4)] (by rfl) rfl rfl am ?_
 with_reducible refine (crc_Sum.calls (a0.extract 0 4) t190 _ tbk A12.out).mono ?_
 rintro e w19 ⟨rfl, hb⟩
 refine ⟨_, rfl, ?_⟩
 have n0_ := Aside0.mk (below_step bw hb)
 clear HB
 have HB := n0_
 clear n0_
 (try clear hb)
 (try clear hb2)
 (try clear hk)
 (try clear hi)
 refine hK.out _ _ trivial (fun hHeld => ?_)
 clear hK K
 refine norm_ (a' := ?_) ?_ ?_
 rotate_left
 ·show Act.put _ (some 26) _ = _
  simp only [Act.put, sl1, sl2, sl3, i64_w, i32_w]
  rfl
 refine one_ (i := 4) (N := some 28) (bz 9 127) rfl rfl (one_of HT_.out (by kernel_rfl)) (by decide) (fun K hK => ?_)
 refine goes_ Tryd.func31 (by kernel_rfl) rfl #[.int .u32 t190, .string (a0.extract 8 (((8 + t189) % 4294967296) : Int).toNat)] (by rfl) rfl rfl am ?_
 with_reducible refine (crc_More.calls t190 (a0.extract 8 (((8 + t189) % 4294967296) : Int).toNat) t191 _ tbk A13.out).mono ?_
 rintro e w20 ⟨rfl, hb⟩
 refine ⟨_, rfl, ?_⟩
 have n0_ := Aside0.mk (below_step bw hb)
 clear HB
 have HB := n0_
 clear n0_
 (try clear hb)
 (try clear hb2)
 (try clear hk)
 (try clear hi)
 refine hK.out _ _ trivial (fun hHeld => ?_)
 clear hK K
 refine norm_ (a' := ?_) ?_ ?_
 rotate_left
 ·show Act.put _ (some 28) _ = _
  simp only [Act.put, sl1, sl2, sl3, i64_w, i32_w]
  rfl
 refine one_ (i := 7) (N := some 31) (bz 9 255) rfl rfl (one_of HT_.out (by kernel_rfl)) (by decide) (fun K hK => ?_)
 refine goes_ Tryd.func36 (by kernel_rfl) rfl #[.string (a0.extract 4 a0.size)] (by rfl) rfl rfl am ?_
 with_reducible refine (crc_number.calls (a0.extract 4 a0.size) t192 _ A15.out).mono ?_
 rintro e w21 ⟨rfl, hb⟩
 refine ⟨_, rfl, ?_⟩
 have n0_ := Aside0.mk (below_step bw hb)
 clear HB
 have HB := n0_
 clear n0_
 (try clear hb)
 (try clear hb2)
 (try clear hk)
 (try clear hi)
 refine hK.out _ _ trivial (fun hHeld => ?_)
 clear hK K
 refine norm_ (a' := ?_) ?_ ?_
 rotate_left
 ·show Act.put _ (some 31) _ = _
  simp only [Act.put, sl1, sl2, sl3, i64_w, i32_w]
  rfl
 refine pu_ 8 (some 32) (bz 9 511) HT_.out ?_
 refine done_ (done_of HT_.out (by kernel_rfl)) ?_
 have H := HhZ.out
 clear HhZ
 by_cases c16 : t191 = t192; rotate_left
 ·rw [if_neg c16] at H
  have c16b0 : (t191 == t192) = false := beq_eq_false_iff_ne.mpr c16
  have c16b1 : (t191 != t192) = true := bne_iff_ne.mpr c16
  simp only [Option.some.injEq, Prod.mk.injEq] at H
  obtain ⟨rfl, rfl, rfl⟩ := H
  try go_wp2
  go_ret3
  exact ⟨er, bw⟩
 rw [if_pos c16] at H
 have c16b0 : (t191 == t192) = true := beq_iff_eq.mpr c16
 have c16b1 : (t191 != t192) = false := bne_eq_false_iff_eq.mpr c16
 clear c16
 simp only [Option.some.injEq, Prod.mk.injEq] at H
 obtain ⟨rfl, rfl, rfl⟩ := H
 try go_wp2
 go_ret3
 exact ⟨er, bw⟩

-- NOT PRINTED: function 52 (bytealg_IndexByteString)

/-! ### stringslite_IndexByte: function 48 -/
def stringslite_IndexByte.f (a0 : ByteArray) (a1 : Int) : Option (Int) := some (Lib.indexByte a0.data.toList a1.toNat.toUInt8)
set_option maxHeartbeats 1000000 in
set_option maxRecDepth 100000 in
theorem stringslite_IndexByte.calls (a0 : ByteArray) (a1 : Int) (r : Int) (w : World) (h : stringslite_IndexByte.f a0 a1 = some r) :
  Calls Tryd.prog 48 #[.string a0, .int .u8 a1] w fun e w' => e = .returned (.int .i64 r) ∧ Drawn0 w w' := by
 obtain rfl := Option.some.inj h
 go_enter Tryd.func48, Tryd.ntmps48
 go_wp2
 rw [run_callFunc_extern Tryd.func52 (by kernel_rfl) (by kernel_rfl) (by kernel_rfl) (e := Extern.BytealgIndexByte.indexByte) (by kernel_rfl), Lib.run_indexByteString]
 simp only [Result.andThen]
 rw [Oper.upon_value]
 go_wp2
 go_ret
 exact ⟨rfl, Drawn0.refl _⟩

/-! ### strings_IndexByte: function 38 -/
def strings_IndexByte.f (a0 : ByteArray) (a1 : Int) : Option (Int) := (stringslite_IndexByte.f a0 a1).bind fun t193 => (some t193)
set_option maxHeartbeats 8000000 in
set_option maxRecDepth 100000 in
theorem strings_IndexByte.calls (a0 : ByteArray) (a1 : Int) (r : Int) (w : World) (h : strings_IndexByte.f a0 a1 = some r) :
  Calls Tryd.prog 38 #[.string a0, .int .u8 a1] w fun e w' => e = .returned (.int .i64 r) ∧ Drawn0 w w' := by
 have H : ((stringslite_IndexByte.f a0 a1).bind fun t193 => (some t193)) = some r := h
 clear h
 replace H := Option.bind_eq_some_iff.mp H
 obtain ⟨t193, A30, H⟩ := H
 replace H : (some t193) = some r := H
 have A3 := Aside0.mk A30
 clear A30
 obtain rfl := Option.some.inj H
 go_enter Tryd.func38, Tryd.ntmps38
 go_wp2_with (first | ((with_reducible refine gate_callee (f := 48) rfl ?_); refine goesL_ (some 7) rfl rfl Tryd.func48 (by kernel_rfl) rfl #[.string a0, .int .u8 a1] rfl am ?_; (with_reducible refine (stringslite_IndexByte.calls a0 a1 t193 _ A3.out).mono ?_); rintro e w' ⟨rfl, ⟨nd, rfl⟩⟩; refine ⟨_, rfl, ?_⟩))
 go_ret
 exact ⟨by first | rfl | (simp; done) | (simp [*]; done), by repeat (first | exact Drawn0.refl _ | apply Drawn0.step)⟩

-- NOT PRINTED: function 54 (bytealg_IndexString)

-- NOT PRINTED: function 55 (bytealg_Cutover)

-- NOT PRINTED: function 57 (bytealg_hashStr_string)

-- NOT PRINTED: function 56 (bytealg_IndexRabinKarp_string)

/-! ### stringslite_Index: function 53 -/
/-- At a text of one byte. -/
def oneByte (s : ByteArray) : Option UInt8 := match s.data.toList with | [c] => some c | _ => none
theorem oneByte_eq {s : ByteArray} {c : UInt8} (h : oneByte s = some c) : s = ⟨#[c]⟩ := by
 obtain ⟨⟨l⟩⟩ := s
 unfold oneByte at h
 match l, h with
 | [d], h => cases h; rfl
def stringslite_Index.f (a0 : ByteArray) (a1 : ByteArray) : Option (Int) := (oneByte a1).bind fun c => some (Lib.indexByte a0.data.toList c)
set_option maxHeartbeats 1000000 in
set_option maxRecDepth 100000 in
theorem stringslite_Index.calls (a0 : ByteArray) (a1 : ByteArray) (r : Int) (w : World) (h : stringslite_Index.f a0 a1 = some r) :
  Calls Tryd.prog 53 #[.string a0, .string a1] w fun e w' => e = .returned (.int .i64 r) ∧ Drawn0 w w' := by
 unfold stringslite_Index.f at h
 obtain ⟨c, hc, h⟩ := Option.bind_eq_some_iff.mp h
 obtain rfl := oneByte_eq hc
 obtain rfl := Option.some.inj h
 clear h hc
 go_enter Tryd.func53, Tryd.ntmps53
 go_wp2_with (go_at_call 48; refine (stringslite_IndexByte.calls _ _ _ _ rfl).mono ?_; rintro e w' ⟨rfl, ⟨n_, rfl⟩⟩)
 ·have h : ([c] == a0.toList) = true := by assumption
  go_ret
  refine ⟨?_, Drawn0.refl _⟩
  have e : a0.data.toList = [c] := by rw [← Lib.toList_data]; exact (beq_iff_eq.1 h).symm
  rw [e]
  simp [Lib.indexByte]
 ·go_ret
  exact ⟨rfl, ⟨_, rfl⟩⟩

/-! ### stringslite_Cut: function 51 -/
def stringslite_Cut.f (a0 : ByteArray) (a1 : ByteArray) : Option (ByteArray × ByteArray × Bool) := (stringslite_Index.f a0 a1).bind fun t194 => (if t194 ≥ 0 then (if 0 ≤ t194 then (if t194 ≤ (a0.size : Int) then (if 0 ≤ (wrap64 (t194 + (a1.size : Int))) then (if (wrap64 (t194 + (a1.size : Int))) ≤ (a0.size : Int) then (some (a0.extract 0 (t194 : Int).toNat, a0.extract ((wrap64 (t194 + (a1.size : Int))) : Int).toNat a0.size, true)) else (none)) else (none)) else (none)) else (none)) else (some (a0, (⟨#[]⟩ : ByteArray), false)))
set_option maxHeartbeats 8000000 in
set_option maxRecDepth 100000 in
theorem stringslite_Cut.calls (a0 : ByteArray) (a1 : ByteArray) (r1 : ByteArray) (r2 : ByteArray) (r3 : Bool) (w : World) (h : stringslite_Cut.f a0 a1 = some (r1, r2, r3)) :
  Calls Tryd.prog 51 #[.string a0, .string a1] w fun e w' => e = .returned (.tuple #[.string r1, .string r2, .bool r3]) ∧ Drawn0 w w' := by
 have H : ((stringslite_Index.f a0 a1).bind fun t194 => (if t194 ≥ 0 then (if 0 ≤ t194 then (if t194 ≤ (a0.size : Int) then (if 0 ≤ (wrap64 (t194 + (a1.size : Int))) then (if (wrap64 (t194 + (a1.size : Int))) ≤ (a0.size : Int) then (some (a0.extract 0 (t194 : Int).toNat, a0.extract ((wrap64 (t194 + (a1.size : Int))) : Int).toNat a0.size, true)) else (none)) else (none)) else (none)) else (none)) else (some (a0, (⟨#[]⟩ : ByteArray), false)))) = some (r1, r2, r3) := h
 clear h
 replace H := Option.bind_eq_some_iff.mp H
 obtain ⟨t194, A30, H⟩ := H
 replace H : (if t194 ≥ 0 then (if 0 ≤ t194 then (if t194 ≤ (a0.size : Int) then (if 0 ≤ (wrap64 (t194 + (a1.size : Int))) then (if (wrap64 (t194 + (a1.size : Int))) ≤ (a0.size : Int) then (some (a0.extract 0 (t194 : Int).toNat, a0.extract ((wrap64 (t194 + (a1.size : Int))) : Int).toNat a0.size, true)) else (none)) else (none)) else (none)) else (none)) else (some (a0, (⟨#[]⟩ : ByteArray), false))) = some (r1, r2, r3) := H
 have A3 := Aside0.mk A30
 clear A30
 by_cases c4 : t194 ≥ 0; rotate_left
 ·rw [if_neg c4] at H
  have c4b0 : decide (0 ≤ t194) = false := decide_eq_false c4
  clear c4
  simp only [Option.some.injEq, Prod.mk.injEq] at H
  obtain ⟨rfl, rfl, rfl⟩ := H
  go_enter Tryd.func51, Tryd.ntmps51
  go_wp2_with (first | (go_at_call 53; (with_reducible refine (stringslite_Index.calls a0 a1 t194 _ A3.out).mono ?_); rintro e w' ⟨rfl, ⟨nd, rfl⟩⟩; (try first | exact ⟨rfl, _, World.drewN_drewN _ _ _⟩ | exact ⟨rfl, _, Eq.trans (World.drewN_drewN _ _ _) (congrArg (World.drewN _) (Nat.add_assoc _ _ _))⟩)))
  go_ret3
  exact ⟨by first | rfl | (simp; done) | (simp [*]; done), by repeat (first | exact Drawn0.refl _ | apply Drawn0.step)⟩
 rw [if_pos c4] at H
 have c4b0 : decide (0 ≤ t194) = true := decide_eq_true c4
 clear c4
 by_cases c5 : 0 ≤ t194; rotate_left
 ·rw [if_neg c5] at H
  exact absurd H (by simp)
 rw [if_pos c5] at H
 have c5b0 := eq_true c5
 have c5b1 : decide (0 ≤ t194) = true := decide_eq_true c5
 clear c5
 by_cases c6 : t194 ≤ (a0.size : Int); rotate_left
 ·rw [if_neg c6] at H
  exact absurd H (by simp)
 rw [if_pos c6] at H
 have c6b0 := eq_true c6
 have c6b1 : decide (t194 ≤ (a0.size : Int)) = true := decide_eq_true c6
 clear c6
 obtain ⟨ji7, hji7⟩ : ∃ j_ : Int, (wrap64 (t194 + (a1.size : Int))) = j_ := ⟨_, rfl⟩
 replace H : (if 0 ≤ (ji7) then (if (ji7) ≤ (a0.size : Int) then (some (a0.extract 0 (t194 : Int).toNat, a0.extract ((ji7) : Int).toNat a0.size, true)) else (none)) else (none)) = some (r1, r2, r3) := by first | (rw [hji7] at H; exact H) | (simp only [hji7] at H ⊢; exact H)
 (try rw [hji7] at A3)
 have hji7w : (IntKind.i64.wrap (t194 + (a1.size : Int))) = ji7 := (i64_w _).trans hji7
 by_cases c8 : 0 ≤ (ji7); rotate_left
 ·rw [if_neg c8] at H
  exact absurd H (by simp)
 rw [if_pos c8] at H
 have c8b0 := eq_true c8
 have c8b1 : decide (0 ≤ (ji7)) = true := decide_eq_true c8
 clear c8
 by_cases c9 : (ji7) ≤ (a0.size : Int); rotate_left
 ·rw [if_neg c9] at H
  exact absurd H (by simp)
 rw [if_pos c9] at H
 have c9b0 := eq_true c9
 have c9b1 : decide ((ji7) ≤ (a0.size : Int)) = true := decide_eq_true c9
 clear c9
 simp only [Option.some.injEq, Prod.mk.injEq] at H
 obtain ⟨rfl, rfl, rfl⟩ := H
 go_enter Tryd.func51, Tryd.ntmps51
 go_wp2_with (first | (go_at_call 53; (with_reducible refine (stringslite_Index.calls a0 a1 t194 _ A3.out).mono ?_); rintro e w' ⟨rfl, ⟨nd, rfl⟩⟩; (try first | exact ⟨rfl, _, World.drewN_drewN _ _ _⟩ | exact ⟨rfl, _, Eq.trans (World.drewN_drewN _ _ _) (congrArg (World.drewN _) (Nat.add_assoc _ _ _))⟩)))
 repeat (go_quiet (first | (go_at_call 53; (with_reducible refine (stringslite_Index.calls a0 a1 t194 _ A3.out).mono ?_); rintro e w' ⟨rfl, ⟨nd, rfl⟩⟩; (try first | exact ⟨rfl, _, World.drewN_drewN _ _ _⟩ | exact ⟨rfl, _, Eq.trans (World.drewN_drewN _ _ _) (congrArg (World.drewN _) (Nat.add_assoc _ _ _))⟩))); try go_wp2_with (first | (go_at_call 53; (with_reducible refine (stringslite_Index.calls a0 a1 t194 _ A3.out).mono ?_); rintro e w' ⟨rfl, ⟨nd, rfl⟩⟩; (try first | exact ⟨rfl, _, World.drewN_drewN _ _ _⟩ | exact ⟨rfl, _, Eq.trans (World.drewN_drewN _ _ _) (congrArg (World.drewN _) (Nat.add_assoc _ _ _))⟩))))
 go_ret3
 exact ⟨by first | rfl | (simp; done) | (simp only [← hji7] <;> (first | rfl | simp)) | (simp [*]; done), by repeat (first | exact Drawn0.refl _ | apply Drawn0.step)⟩

/-! ### strings_Cut: function 47 -/
def strings_Cut.f (a0 : ByteArray) (a1 : ByteArray) : Option (ByteArray × ByteArray × Bool) := (stringslite_Cut.f a0 a1).bind fun bt195 => (some (bt195.1, bt195.2.1, bt195.2.2))
set_option maxHeartbeats 8000000 in
set_option maxRecDepth 100000 in
theorem strings_Cut.calls (a0 : ByteArray) (a1 : ByteArray) (r1 : ByteArray) (r2 : ByteArray) (r3 : Bool) (w : World) (h : strings_Cut.f a0 a1 = some (r1, r2, r3)) :
  Calls Tryd.prog 47 #[.string a0, .string a1] w fun e w' => e = .returned (.tuple #[.string r1, .string r2, .bool r3]) ∧ Drawn0 w w' := by
 have H : ((stringslite_Cut.f a0 a1).bind fun bt195 => (some (bt195.1, bt195.2.1, bt195.2.2))) = some (r1, r2, r3) := h
 clear h
 replace H := Option.bind_eq_some_iff.mp H
 obtain ⟨⟨t195, t196, t197⟩, A30, H⟩ := H
 replace H : (some (t195, t196, t197)) = some (r1, r2, r3) := H
 have A3 := Aside0.mk A30
 clear A30
 simp only [Option.some.injEq, Prod.mk.injEq] at H
 obtain ⟨rfl, rfl, rfl⟩ := H
 go_enter Tryd.func47, Tryd.ntmps47
 go_wp2_with (first | ((with_reducible refine gate_callee (f := 51) rfl ?_); refine goesL_ (some 9) rfl rfl Tryd.func51 (by kernel_rfl) rfl #[.string a0, .string a1] rfl am ?_; (with_reducible refine (stringslite_Cut.calls a0 a1 t195 t196 t197 _ A3.out).mono ?_); rintro e w' ⟨rfl, ⟨nd, rfl⟩⟩; refine ⟨_, rfl, ?_⟩))
 go_ret3
 exact ⟨by first | rfl | (simp; done) | (simp [*]; done), by repeat (first | exact Drawn0.refl _ | apply Drawn0.step)⟩

/-! ### codec_right: function 37 -/
/-- Is a byte one of the kinds' letters? -/
def letB (c : UInt8) : Bool := !decide (Lib.indexByte [98, 119, 108, 116] c < 0)
theorem below_convR (w : World) (e : TypeId) (s : ByteArray) : Below w.heap.size w (Lib.bytesWorld w e s) :=
 ⟨rfl, rfl, rfl, by rw [Lib.bytesWorld_size]; omega, fun i hi => Lib.bytesWorld_at_old w e s i hi⟩
theorem take_snocR (l : List UInt8) (k : Nat) (h : k < l.length) : l.take (k + 1) = l.take k ++ [l.getD k 0] := by
 rw [List.take_succ_eq_append_getElem h]
 simp [List.getD_eq_getElem?_getD, List.getElem?_eq_getElem h]
theorem toNat_toUInt8 (c : UInt8) : ((c.toNat : Nat) : Int).toNat.toUInt8 = c := by
 rw [show ((c.toNat : Nat) : Int).toNat = c.toNat from rfl]
 simp
def codec_right.f (a0 : ByteArray) : Option (Bool) := (strings_Cut.f a0 (⟨#[42]⟩ : ByteArray)).bind fun b =>
 if b.1.size + b.2.1.size ≤ 9223372036854775807 then some ((b.1 ++ b.2.1).data.toList.all letB && (!b.2.2 || (b.2.1.toList != ([] : List UInt8)))) else none
set_option maxHeartbeats 4000000 in
set_option maxRecDepth 100000 in
theorem codec_right.calls (a0 : ByteArray) (r : Bool) (w : World) (h : codec_right.f a0 = some r) :
  Calls Tryd.prog 37 #[.string a0] w fun e w' => e = .returned (.bool r) ∧ Below w.heap.size w w' := by
 unfold codec_right.f at h
 obtain ⟨⟨t1, t2, t3⟩, A20, h⟩ := Option.bind_eq_some_iff.mp h
 have A2 := Aside0.mk A20
 clear A20
 replace h : (if t1.size + t2.size ≤ 9223372036854775807 then some ((t1 ++ t2).data.toList.all letB && (!t3 || (t2.toList != ([] : List UInt8)))) else none) = some r := h
 by_cases c3 : t1.size + t2.size ≤ 9223372036854775807
 case neg => rw [if_neg c3] at h; exact absurd h (by simp)
 rw [if_pos c3] at h
 have HR := Aside0.mk (Option.some.inj h)
 clear h
 have c3b0 := eq_true c3
 have c3b1 : decide (t1.size + t2.size ≤ 9223372036854775807) = true := decide_eq_true c3
 have c3b2 : (9223372036854775807 < t1.size + t2.size) = False := eq_false (Nat.not_lt.2 c3)
 obtain ⟨n, hn⟩ : ∃ n : Nat, n = t1.size + t2.size := ⟨_, rfl⟩
 have HN := Aside0.mk hn
 have HSL : Aside0 ((t1 ++ t2).data.toList.length = n) := ⟨by rw [Array.length_toList, hn]; exact ByteArray.size_append⟩
 have hnb : n ≤ 9223372036854775807 := by omega
 clear hn c3
 go_enter Tryd.func37, Tryd.ntmps37
 go_wp2_with (first | ((with_reducible refine gate_callee (f := 47) rfl ?_); refine goesL_ (some 10) rfl rfl Tryd.func47 (by kernel_rfl) rfl #[.string a0, .string (⟨#[42]⟩ : ByteArray)] rfl am ?_; (with_reducible refine (strings_Cut.calls a0 (⟨#[42]⟩ : ByteArray) t1 t2 t3 _ A2.out).mono ?_); rintro e w1 ⟨rfl, hd⟩; refine ⟨_, rfl, ?_⟩; have HB1 := Aside0.mk hd.below; clear hd; have hconv := Lib.run_convert_string_bytes (P := Tryd.prog) w1 9 72 5 (t1 ++ t2) Tryd.underlying9 Tryd.underlying72 Tryd.underlying5; have HBW := Aside0.mk (below_convR w1 5 (t1 ++ t2)); have HCB := Aside0.mk (Lib.bytesWorld_cell w1 5 (t1 ++ t2)); generalize Lib.bytesWorld w1 5 (t1 ++ t2) = W1 at hconv HBW HCB; have hsz : (t1 ++ t2).size = n := (ByteArray.size_append.trans HN.out.symm); rw [hsz] at hconv HCB; clear hsz))
 go_loopw [19] (fun v19 w' => ∃ k : Nat, k ≤ n ∧ v19 = .int .i64 (k : Int) ∧ Aside0 (((t1 ++ t2).data.toList.take k).all letB = true) ∧ Drawn0 W1 w') (fun v19 _ => n - (intOf v19).toNat)
 case atStart => exact ⟨0, Nat.zero_le _, rfl, ⟨rfl⟩, Drawn0.refl _⟩
 case round =>
  obtain ⟨k, hk, rfl, HA, ⟨m1, rfl⟩⟩ := hrel
  by_cases hlt : k < n
  ·have hc0 := HCB.out k hlt
   obtain ⟨c, hc⟩ : ∃ c : UInt8, c = (t1 ++ t2).data.toList.getD k 0 := ⟨_, rfl⟩
   rw [← hc] at hc0
   have HC := Aside0.mk hc
   clear hc
   have hsn := take_snocR ((t1 ++ t2).data.toList) k (by rw [HSL.out]; exact hlt)
   rw [← HC.out] at hsn
   have HS := Aside0.mk hsn
   clear hsn
   obtain ⟨t, ht⟩ : ∃ t : Int, strings_IndexByte.f (⟨#[98, 119, 108, 116]⟩ : ByteArray) ((c.toNat : Nat) : Int) = some t := ⟨_, rfl⟩
   have htl : letB c = !decide (t < 0) := by
    have e : strings_IndexByte.f (⟨#[98, 119, 108, 116]⟩ : ByteArray) ((c.toNat : Nat) : Int) = some (Lib.indexByte [98, 119, 108, 116] (((c.toNat : Nat) : Int).toNat.toUInt8)) := rfl
    rw [toNat_toUInt8] at e
    rw [letB, Option.some.inj (ht.symm.trans e)]
   have HT := Aside0.mk htl
   have A3 := Aside0.mk ht
   clear htl ht
   by_cases ct : t < 0
   ·have ctb : decide (t < 0) = true := decide_eq_true ct
    have hf : letB c = false := by rw [HT.out, ctb]; rfl
    have hr : r = false := by
     rw [← HR.out]
     have : (t1 ++ t2).data.toList.all letB = false := by
      rw [← List.take_append_drop (k + 1) ((t1 ++ t2).data.toList), List.all_append, HS.out, List.all_append]
      simp [hf]
     rw [this]
     rfl
    subst hr
    clear ct hf
    go_wp2_with (first | ((with_reducible refine gate_callee (f := 38) rfl ?_); refine goesL_ (some 24) rfl rfl Tryd.func38 (by kernel_rfl) rfl #[.string (⟨#[98, 119, 108, 116]⟩ : ByteArray), .int .u8 ((c.toNat : Nat) : Int)] rfl am ?_; (with_reducible refine (strings_IndexByte.calls (⟨#[98, 119, 108, 116]⟩ : ByteArray) ((c.toNat : Nat) : Int) t _ A3.out).mono ?_); rintro e w' ⟨rfl, ⟨nd, rfl⟩⟩; refine ⟨_, rfl, ?_⟩))
    go_ret
    exact ⟨rfl, ((HB1.out.trans (HBW.out.mono HB1.out.size)).trans ((Drawn0.step (Drawn0.refl W1) _).below.mono (HB1.out.trans (HBW.out.mono HB1.out.size)).size))⟩
   ·have ctb : decide (t < 0) = false := decide_eq_false ct
    have hf : letB c = true := by rw [HT.out, ctb]; rfl
    have HF : Aside0 (((t1 ++ t2).data.toList.take (k + 1)).all letB = true) := ⟨by rw [HS.out, List.all_append, HA.out]; simp [hf]⟩
    clear ct hf
    go_wp2_with (first | ((with_reducible refine gate_callee (f := 38) rfl ?_); refine goesL_ (some 24) rfl rfl Tryd.func38 (by kernel_rfl) rfl #[.string (⟨#[98, 119, 108, 116]⟩ : ByteArray), .int .u8 ((c.toNat : Nat) : Int)] rfl am ?_; (with_reducible refine (strings_IndexByte.calls (⟨#[98, 119, 108, 116]⟩ : ByteArray) ((c.toNat : Nat) : Int) t _ A3.out).mono ?_); rintro e w' ⟨rfl, ⟨nd, rfl⟩⟩; refine ⟨_, rfl, ?_⟩))
    go_roundw
    case rel => exact ⟨k + 1, by omega, by go_num, HF, Drawn0.step (Drawn0.refl W1) _⟩
    case measure => simp [intOf]; omega
  ·obtain rfl : k = n := by omega
   have hall : (t1 ++ t2).data.toList.all letB = true := by have := HA.out; rwa [List.take_of_length_le (by rw [HSL.out]; exact Nat.le_refl _)] at this
   have hr : (!t3 || (t2.toList != ([] : List UInt8))) = r := by have := HR.out; rw [hall] at this; simpa using this
   have HRR := Aside0.mk hr
   clear hr hall
   cases t3
   ·have hr : r = true := by rw [← HRR.out]; rfl
    subst hr
    go_wp2
    go_ret
    exact ⟨rfl, ((HB1.out.trans (HBW.out.mono HB1.out.size)).trans ((Drawn0.step (Drawn0.refl W1) _).below.mono (HB1.out.trans (HBW.out.mono HB1.out.size)).size))⟩
   ·obtain rfl : (t2.toList != ([] : List UInt8)) = r := by have := HRR.out; simpa using this
    go_wp2
    go_ret
    exact ⟨congrArg (fun b : Bool => Ending.returned (.bool b)) (show (!t2.toList.isEmpty) = (t2.toList != ([] : List UInt8)) by cases t2.toList <;> rfl), ((HB1.out.trans (HBW.out.mono HB1.out.size)).trans ((Drawn0.step (Drawn0.refl W1) _).below.mono (HB1.out.trans (HBW.out.mono HB1.out.size)).size))⟩

/-- A state of type 83 at block g of W; what its slices lead to came in by w0. -/
def IsS83 (w0 W : World) (g : Nat) (f0 : ByteArray) (f1 : Int) : Prop := W.heap[g]? = some (.cells #[.string f0, .int .i64 f1] 83 (0, 0)) ∧ w0.heap.size ≤ g
theorem IsS83.grown {w0 W : World} {g : Nat} {f0 : ByteArray} {f1 : Int} {W1 : World} {row : Option Nat} (h : IsS83 w0 W g f0 f1) (hw : W.grownBy W1 row) (hne : some g ≠ row) : IsS83 w0 W1 g f0 f1 := by
 obtain ⟨hb, hg⟩ := h
 exact ⟨blk_grown hb hw hne, hg⟩
theorem IsS83.own_neN {w0 W : World} {g : Nat} {f0 : ByteArray} {f1 : Int} {α : Type} {d : Kd α} {e : Nat} {base : Nat} {ok : Nat → Prop} {v : Value} {xs : List α} (h : IsS83 w0 W g f0 f1) (ho : Kd.N d e W base ok v xs) (ht : e ≠ 83) : some g ≠ v.ownBlock := by
 obtain ⟨hb, hg⟩ := h
 exact Kd.N_ne ho hb ht
theorem IsS83.fresh {w0 W : World} {g : Nat} {f0 : ByteArray} {f1 : Int} (h : IsS83 w0 W g f0 f1) : ∀ k, W.heap.size ≤ k → k ≠ g := by
 obtain ⟨hb, hg⟩ := h
 exact Kd.freshB hb
theorem IsS83.kept {w0 W : World} {g : Nat} {f0 : ByteArray} {f1 : Int} {W1 : World} {S : Nat → Prop} (h : IsS83 w0 W g f0 f1) (hk : Kept W W1 S) (hne : ¬ S g) : IsS83 w0 W1 g f0 f1 := by
 obtain ⟨hb, hg⟩ := h
 exact ⟨blk_kept hb hk hne, hg⟩
theorem IsS83.below {w0 W : World} {g : Nat} {f0 : ByteArray} {f1 : Int} {W1 : World} (h : IsS83 w0 W g f0 f1) (hw : Below W.heap.size W W1) : IsS83 w0 W1 g f0 f1 := h.grown (grown_of_below hw none) (by simp)
theorem IsS83.alloc {w0 W : World} {g : Nat} {f0 : ByteArray} {f1 : Int} (h : IsS83 w0 W g f0 f1) (o : Obj) : IsS83 w0 (W.alloc o) g f0 f1 := h.below (below_alloc (Below.refl _ _) o)
theorem IsS83.drewN {w0 W : World} {g : Nat} {f0 : ByteArray} {f1 : Int} (h : IsS83 w0 W g f0 f1) (m : Nat) : IsS83 w0 (W.drewN m) g f0 f1 := h
theorem IsS83.drew {w0 W : World} {g : Nat} {f0 : ByteArray} {f1 : Int} (h : IsS83 w0 W g f0 f1) : IsS83 w0 W.drew g f0 f1 := h
theorem IsS83.at_ {w0 W : World} {g : Nat} {f0 : ByteArray} {f1 : Int} {w' : World} {m : Nat} (hq : W.drewN m = w') (h : IsS83 w0 W g f0 f1) : IsS83 w0 w' g f0 f1 := by subst hq; exact IsS83.drewN h m
theorem IsS83.apart {w0 W : World} {g : Nat} {f0 : ByteArray} {f1 : Int} {α : Type} {d : Kd α} {e : Nat} {base : Nat} {ok : Nat → Prop} {v : Value} {xs : List α} (h : IsS83 w0 W g f0 f1) (ho : d.R e W base ok v xs) (ht : ∀ q, q ∈ e :: d.E → q ≠ 83) : d.R e W base (fun k => ok k ∧ k ≠ g) v xs := by
 obtain ⟨hb, hg⟩ := h
 exact Kd.R_types ho hb ht
theorem IsS83.own_ne {w0 W : World} {g : Nat} {f0 : ByteArray} {f1 : Int} {α : Type} {d : Kd α} {e : Nat} {base : Nat} {ok : Nat → Prop} {v : Value} {xs : List α} (h : IsS83 w0 W g f0 f1) (ho : d.R e W base ok v xs) (ht : e ≠ 83) : some g ≠ v.ownBlock := by
 obtain ⟨hb, hg⟩ := h
 exact Kd.R_ne ho hb ht
theorem IsS83.apartQ {w0 W : World} {g : Nat} {f0 : ByteArray} {f1 : Int} {α : Type} {d : Kd α} {e : Nat} {base : Nat} {ok : Nat → Prop} {v : Value} {xs : List α} (h : IsS83 w0 W g f0 f1) (ho : d.Q e W base ok v xs) (ht : ∀ q, q ∈ e :: d.E → q ≠ 83) : d.Q e W base (fun k => ok k ∧ k ≠ g) v xs := by
 obtain ⟨hb, hg⟩ := h
 exact Kd.Q_types ho hb ht
theorem IsS83.own_neQ {w0 W : World} {g : Nat} {f0 : ByteArray} {f1 : Int} {α : Type} {d : Kd α} {e : Nat} {base : Nat} {ok : Nat → Prop} {v : Value} {xs : List α} (h : IsS83 w0 W g f0 f1) (ho : d.Q e W base ok v xs) (ht : e ≠ 83) : some g ≠ v.ownBlock := by
 obtain ⟨hb, hg⟩ := h
 exact Kd.Q_ne ho hb ht
theorem IsS83.apartS {w0 W : World} {g : Nat} {f0 : ByteArray} {f1 : Int} {α : Type} {d : Kd α} {e : Nat} {base : Nat} {ok : Nat → Prop} {v : Value} {xs : List α} (h : IsS83 w0 W g f0 f1) (ho : d.S e W base ok v xs) (ht : ∀ q, q ∈ e :: d.E → q ≠ 83) : d.S e W base (fun k => ok k ∧ k ≠ g) v xs := by
 obtain ⟨hb, hg⟩ := h
 exact Kd.S_types ho hb ht
theorem IsS83.own_neS {w0 W : World} {g : Nat} {f0 : ByteArray} {f1 : Int} {α : Type} {d : Kd α} {e : Nat} {base : Nat} {ok : Nat → Prop} {v : Value} {xs : List α} (h : IsS83 w0 W g f0 f1) (ho : d.S e W base ok v xs) (ht : e ≠ 83) : some g ≠ v.ownBlock := by
 obtain ⟨hb, hg⟩ := h
 exact Kd.S_ne ho hb ht
theorem IsS83.lt {w0 W : World} {g : Nat} {f0 : ByteArray} {f1 : Int} (h : IsS83 w0 W g f0 f1) : g < W.heap.size := by
 obtain ⟨hb, hg⟩ := h
 exact blk_lt hb
theorem IsS83.ge {w0 W : World} {g : Nat} {f0 : ByteArray} {f1 : Int} (h : IsS83 w0 W g f0 f1) : w0.heap.size ≤ g := by
 obtain ⟨hb, hg⟩ := h
 exact hg
theorem IsS83.ne_blk {w0 W : World} {g : Nat} {f0 : ByteArray} {f1 : Int} {a : Nat} {cs : Array Value} {t : TypeId} {fr : Nat × Nat} (h : IsS83 w0 W g f0 f1) (hb2 : W.heap[a]? = some (.cells cs t fr)) (ht : t ≠ 83) : g ≠ a := by
 obtain ⟨hb, hg⟩ := h
 rintro rfl
 rw [hb] at hb2
 injection hb2 with hb2
 injection hb2 with _ ht2
 exact ht ht2.symm
theorem IsS83.far {w0 W : World} {g : Nat} {f0 : ByteArray} {f1 : Int} {p : Addr} (h : IsS83 w0 W g f0 f1) (hne : g ≠ p.block) (u : Value) : IsS83 w0 (W.setCell p u) g f0 f1 := by
 obtain ⟨hb, hg⟩ := h
 exact ⟨blk_far hb hne u, hg⟩
theorem cellS83_0 {W : World} {g : Nat} {f0 : ByteArray} {f1 : Int} (h : W.heap[g]? = some (.cells #[.string f0, .int .i64 f1] 83 (0, 0))) : W.cell? ⟨g, 0, none⟩ = some (.string f0) := (blk_cell h 0).trans rfl
theorem IsS83.set_0 {w0 W : World} {g : Nat} {f0 : ByteArray} {f1 : Int} (h : IsS83 w0 W g f0 f1) (x : ByteArray) : IsS83 w0 (W.setCell ⟨g, 0, none⟩ (.string x)) g x f1 := by
 obtain ⟨hb, hg⟩ := h
 exact ⟨by simpa using blk_set hb 0 (.string x), hg⟩
theorem cellS83_1 {W : World} {g : Nat} {f0 : ByteArray} {f1 : Int} (h : W.heap[g]? = some (.cells #[.string f0, .int .i64 f1] 83 (0, 0))) : W.cell? ⟨g, 1, none⟩ = some (.int .i64 f1) := (blk_cell h 1).trans rfl
theorem IsS83.set_1 {w0 W : World} {g : Nat} {f0 : ByteArray} {f1 : Int} (h : IsS83 w0 W g f0 f1) (x : Int) : IsS83 w0 (W.setCell ⟨g, 1, none⟩ (.int .i64 x)) g f0 x := by
 obtain ⟨hb, hg⟩ := h
 exact ⟨by simpa using blk_set hb 1 (.int .i64 x), hg⟩
theorem IsS83.new (w0 W : World) (f0 : ByteArray) (f1 : Int) (hB : Below w0.heap.size w0 W) : IsS83 w0 (W.alloc (.cells #[.string f0, .int .i64 f1] 83)) W.heap.size f0 f1 := ⟨by simpa using heap_alloc_new W _, hB.size⟩

/-! ### codec_reader_number: function 40 -/
/-- The number of some bytes. -/
def beNat (l : List UInt8) : Nat := l.foldl (fun n c => n * 256 + c.toNat) 0
theorem beNat_snoc (l : List UInt8) (c : UInt8) : beNat (l ++ [c]) = beNat l * 256 + c.toNat := by simp [beNat]
theorem beNat_lt (l : List UInt8) : beNat l < 256 ^ l.length := by
 have key : ∀ (l : List UInt8) (a : Nat), l.foldl (fun n c => n * 256 + c.toNat) a < (a + 1) * 256 ^ l.length := by
  intro l
  induction l with
  | nil => intro a; simp
  | cons c l ih =>
   intro a
   have h1 := ih (a * 256 + c.toNat)
   have h2 := c.toNat_lt
   rw [List.foldl_cons, List.length_cons, Nat.pow_succ]
   refine Nat.lt_of_lt_of_le h1 ?_
   rw [Nat.mul_comm (256 ^ l.length) 256, ← Nat.mul_assoc]
   exact Nat.mul_le_mul_right _ (by omega)
 have := key l 0
 simpa [beNat] using this
theorem below_convB (w : World) (e : TypeId) (s : ByteArray) : Below w.heap.size w (Lib.bytesWorld w e s) :=
 ⟨rfl, rfl, rfl, by rw [Lib.bytesWorld_size]; omega, fun i hi => Lib.bytesWorld_at_old w e s i hi⟩
theorem take_snocB (l : List UInt8) (k : Nat) (h : k < l.length) : l.take (k + 1) = l.take k ++ [l.getD k 0] := by
 rw [List.take_succ_eq_append_getElem h]
 simp [List.getD_eq_getElem?_getD, List.getElem?_eq_getElem h]
theorem or_byte (m c : Nat) (hm : m < 72057594037927936) (hc : c < 256) : Go.bits .or .u64 (IntKind.u64.wrap ((m : Int) * 256)) (c : Int) = ((m * 256 + c : Nat) : Int) := by
 have e : IntKind.u64.wrap ((m : Int) * 256) = ((m * 256 : Nat) : Int) := by
  show ((m : Int) * 256) % 18446744073709551616 = _
  omega
 rw [e, u64_or_nat (m * 256) c (by omega) (by omega)]
 have := Nat.two_pow_add_eq_or_of_lt (i := 8) (b := c) (by omega) m
 rw [show m * 256 = 2 ^ 8 * m by omega, ← this]
theorem extract_list (s : ByteArray) (i j : Nat) : (s.extract i j).data.toList = (s.data.toList.drop i).take (j - i) := by
 rw [ByteArray.data_extract, Array.toList_extract, List.extract_eq_take_drop]
def codec_reader_number.f (s0_0 : ByteArray) (s0_1 : Int) (a1 : Int) : Option (Int × ByteArray × Int) :=
 if (s0_0.size : Int) < a1 then some (0, s0_0, 2) else if 0 ≤ a1 ∧ a1 ≤ 8 then some ((beNat (s0_0.data.toList.take a1.toNat) : Int), s0_0.extract a1.toNat s0_0.size, s0_1) else none
set_option maxHeartbeats 4000000 in
set_option maxRecDepth 100000 in
theorem codec_reader_number.calls (g : Nat) (s0_0 : ByteArray) (s0_1 : Int) (a1 : Int) (r1 : Int) (r2 : ByteArray) (r3 : Int) (w0 w : World) (hI : IsS83 w0 w g s0_0 s0_1) (hB : Below w0.heap.size w0 w) (h : codec_reader_number.f s0_0 s0_1 a1 = some (r1, r2, r3)) :
  Calls Tryd.prog 40 #[.pointer (some ⟨g, 0, none⟩), .int .i64 a1] w fun e w' => e = .returned (.int .u64 r1) ∧ IsS83 w0 w' g r2 r3 ∧ Below w0.heap.size w0 w' ∧ KeepBut w w' g none := by
 unfold codec_reader_number.f at h
 by_cases c0 : (s0_0.size : Int) < a1
 ·rw [if_pos c0] at h
  have c0b : decide ((s0_0.size : Int) < a1) = true := decide_eq_true c0
  clear c0
  simp only [Option.some.injEq, Prod.mk.injEq] at h
  obtain ⟨rfl, rfl, rfl⟩ := h
  have HI0 := Aside0.mk hI
  have HB := Aside0.mk hB
  have HK := Aside0.mk (KeepBut.refl w g none)
  obtain ⟨HG, hg⟩ := hI
  have hcz_0 := cellS83_0 HG
  have hcz_1 := cellS83_1 HG
  have hfz_0 := blk_frozen HG 0
  have hfz_1 := blk_frozen HG 1
  clear HG hg hB
  go_enter Tryd.func40, Tryd.ntmps40
  go_wp2
  go_ret
  exact ⟨rfl, IsS83.set_1 HI0.out 2, below_set HB.out (IsS83.ge HI0.out), KeepBut.set_ HK.out _ _⟩
 ·rw [if_neg c0] at h
  by_cases c1 : 0 ≤ a1 ∧ a1 ≤ 8
  case neg => rw [if_neg c1] at h; exact absurd h (by simp)
  rw [if_pos c1] at h
  obtain ⟨m, rfl⟩ : ∃ m : Nat, a1 = (m : Int) := ⟨a1.toNat, by omega⟩
  have hm8 : m ≤ 8 := by omega
  have hms : m ≤ s0_0.size := by omega
  clear c1
  rw [show ((m : Int)).toNat = m from rfl] at h
  simp only [Option.some.injEq, Prod.mk.injEq] at h
  obtain ⟨rfl, rfl, rfl⟩ := h
  obtain ⟨sx, hsx⟩ : ∃ sx : ByteArray, sx = s0_0.extract 0 m := ⟨_, rfl⟩
  have hsl : sx.data.toList = s0_0.data.toList.take m := by rw [hsx, extract_list]; simp
  have hsz : sx.size = m := by rw [hsx, ByteArray.size_extract]; omega
  have hln : sx.data.toList.length = m := by rw [Array.length_toList]; exact hsz
  have hconv := Lib.run_convert_string_bytes (P := Tryd.prog) w 9 72 5 sx Tryd.underlying9 Tryd.underlying72 Tryd.underlying5
  rw [hsz] at hconv
  have HBW := Aside0.mk (below_convB w 5 sx)
  have HCB := Aside0.mk (Lib.bytesWorld_cell w 5 sx)
  have HI1 := Aside0.mk (IsS83.below hI (below_convB w 5 sx))
  obtain ⟨HG0, hg0⟩ := hI
  have hdz_0 := cellS83_0 HG0
  have hdz_1 := cellS83_1 HG0
  clear HG0
  generalize Lib.bytesWorld w 5 sx = W1 at hconv HBW HCB HI1
  rw [hsx] at hconv
  have HB := Aside0.mk (hB.trans (HBW.out.mono hB.size))
  have HK := Aside0.mk (KeepBut.of_below HBW.out g none)
  obtain ⟨HG1, hg1⟩ := HI1.out
  have hcz_0 := cellS83_0 HG1
  have hcz_1 := cellS83_1 HG1
  have hfz_0 := blk_frozen HG1 0
  have hfz_1 := blk_frozen HG1 1
  have HSL := Aside0.mk hsl
  have HLN := Aside0.mk hln
  have HSZ := Aside0.mk hsz
  have c0b : decide (s0_0.size < m) = false := decide_eq_false (by omega)
  clear HG1 hg1 hg0 hB hsl hln hsz c0
  go_enter Tryd.func40, Tryd.ntmps40
  go_wp2
  go_loop [5, 26] (fun v5 v26 => ∃ (k n : Nat), k ≤ m ∧ v26 = .int .i64 k ∧ v5 = .int .u64 (n : Int) ∧ n < 256 ^ k ∧ Aside0 (n = beNat (s0_0.data.toList.take k))) (fun _ v26 => m - (intOf v26).toNat)
  case atStart => exact ⟨0, 0, Nat.zero_le _, rfl, rfl, by decide, ⟨by simp [beNat]⟩⟩
  case round =>
   obtain ⟨k, n, hk, rfl, rfl, hn, HN⟩ := hrel
   by_cases hlt : k < m
   ·have hc0 := HCB.out k (by rw [HSZ.out]; exact hlt)
    obtain ⟨c, hc⟩ : ∃ c : Nat, c = (sx.data.toList.getD k 0).toNat := ⟨_, rfl⟩
    rw [← hc] at hc0
    have hc1 : c < 256 := by rw [hc]; exact UInt8.toNat_lt _
    have HC := Aside0.mk hc
    clear hc
    have hn7 : n < 72057594037927936 := Nat.lt_of_lt_of_le hn (by
     have : 256 ^ k ≤ 256 ^ 7 := Nat.pow_le_pow_right (by decide) (by omega)
     simpa using this)
    obtain ⟨n2, hn2⟩ : ∃ x : Nat, x = n * 256 + c := ⟨_, rfl⟩
    have hor := or_byte n c hn7 hc1
    rw [← hn2] at hor
    have hcm : (c : Int) % 18446744073709551616 = (c : Int) := by omega
    have hn2l : n2 < 256 ^ (k + 1) := by rw [hn2, Nat.pow_succ]; omega
    have HF : Aside0 (n2 = beNat (s0_0.data.toList.take (k + 1))) := ⟨by
     have h1 : k < s0_0.data.toList.length := by rw [Array.length_toList]; exact Nat.lt_of_lt_of_le hlt hms
     rw [take_snocB _ k h1, beNat_snoc, ← HN.out, hn2, HC.out, HSL.out]
     rw [show (List.take m s0_0.data.toList).getD k 0 = s0_0.data.toList.getD k 0 by rw [List.getD_eq_getElem?_getD, List.getD_eq_getElem?_getD, List.getElem?_take_of_lt hlt]]⟩
    clear hn2 hn hn7
    go_wp2
    go_round
    case rel => exact ⟨k + 1, n2, by omega, by go_num, rfl, hn2l, HF⟩
    case measure => simp [intOf]; omega
   ·obtain rfl : k = m := by omega
    go_wp2
    go_ret
    exact ⟨congrArg (fun x : Nat => Ending.returned (.int .u64 (x : Int))) HN.out, IsS83.set_0 HI1.out _, below_set HB.out (IsS83.ge HI1.out), KeepBut.set_ HK.out _ _⟩

/-! ### codec_reader_text: function 39 -/
def codec_reader_text.f (s0_0 : ByteArray) (s0_1 : Int) : Option (ByteArray × ByteArray × Int) := (codec_reader_number.f s0_0 s0_1 4).bind fun bt198 => (if bt198.2.2 = 0 then (if bt198.1 > 100000 then (some ((⟨#[]⟩ : ByteArray), bt198.2.1, 3)) else (if bt198.1 > (IntKind.u64.wrap ((bt198.2.1.size : Int))) then (some ((⟨#[]⟩ : ByteArray), bt198.2.1, 2)) else (if 0 ≤ bt198.1 then (if bt198.1 ≤ (bt198.2.1.size : Int) then (some (bt198.2.1.extract 0 (bt198.1 : Int).toNat, bt198.2.1.extract (bt198.1 : Int).toNat bt198.2.1.size, bt198.2.2)) else (none)) else (none)))) else (some ((⟨#[]⟩ : ByteArray), bt198.2.1, bt198.2.2)))
set_option maxHeartbeats 8000000 in
set_option maxRecDepth 100000 in
theorem codec_reader_text.calls (g : Nat) (s0_0 : ByteArray) (s0_1 : Int) (r1 : ByteArray) (r2 : ByteArray) (r3 : Int) (w0 w : World) (hI : IsS83 w0 w g s0_0 s0_1) (hB : Below w0.heap.size w0 w) (h : codec_reader_text.f s0_0 s0_1 = some (r1, r2, r3)) :
  Calls Tryd.prog 39 #[.pointer (some ⟨g, 0, none⟩)] w fun e w' => e = .returned (.string r1) ∧ IsS83 w0 w' g r2 r3 ∧ Below w0.heap.size w0 w' ∧ KeepBut w w' g none := by
 have HI0 := Aside0.mk hI
 have HK := Aside0.mk (KeepBut.refl w g none)
 have HL := Aside0.mk hB.size
 clear hI
 have HW0 := Aside0.mk hB.size
 have HB := Aside0.mk hB
 clear hB
 have H : ((codec_reader_number.f s0_0 s0_1 4).bind fun bt198 => (if bt198.2.2 = 0 then (if bt198.1 > 100000 then (some ((⟨#[]⟩ : ByteArray), bt198.2.1, 3)) else (if bt198.1 > (IntKind.u64.wrap ((bt198.2.1.size : Int))) then (some ((⟨#[]⟩ : ByteArray), bt198.2.1, 2)) else (if 0 ≤ bt198.1 then (if bt198.1 ≤ (bt198.2.1.size : Int) then (some (bt198.2.1.extract 0 (bt198.1 : Int).toNat, bt198.2.1.extract (bt198.1 : Int).toNat bt198.2.1.size, bt198.2.2)) else (none)) else (none)))) else (some ((⟨#[]⟩ : ByteArray), bt198.2.1, bt198.2.2)))) = some (r1, r2, r3) := h
 clear h
 replace H := Option.bind_eq_some_iff.mp H
 obtain ⟨⟨t198, t199, t200⟩, A20, H⟩ := H
 replace H : (if t200 = 0 then (if t198 > 100000 then (some ((⟨#[]⟩ : ByteArray), t199, 3)) else (if t198 > (IntKind.u64.wrap ((t199.size : Int))) then (some ((⟨#[]⟩ : ByteArray), t199, 2)) else (if 0 ≤ t198 then (if t198 ≤ (t199.size : Int) then (some (t199.extract 0 (t198 : Int).toNat, t199.extract (t198 : Int).toNat t199.size, t200)) else (none)) else (none)))) else (some ((⟨#[]⟩ : ByteArray), t199, t200))) = some (r1, r2, r3) := H
 have A2 := Aside0.mk A20
 clear A20
 by_cases c3 : t200 = 0; rotate_left
 ·rw [if_neg c3] at H
  have c3b0 : (t200 == 0) = false := beq_eq_false_iff_ne.mpr c3
  have c3b1 : (t200 != 0) = true := bne_iff_ne.mpr c3
  simp only [Option.some.injEq, Prod.mk.injEq] at H
  obtain ⟨rfl, rfl, rfl⟩ := H
  go_enter Tryd.func39, Tryd.ntmps39
  go_wp2_with (first | ((with_reducible refine gate_callee (f := 40) rfl ?_); refine goesL_ (some 6) rfl rfl Tryd.func40 (by kernel_rfl) rfl #[.pointer (some ⟨g, 0, none⟩), .int .i64 4] rfl am ?_; (with_reducible refine (codec_reader_number.calls g s0_0 s0_1 4 t198 t199 t200 w0 _ ?side1 ?side2 A2.out).mono ?_); (case side1 => repeat (first | (with_reducible first | exact HI0.out | apply IsS83.alloc | apply IsS83.drewN | apply IsS83.drew | apply IsS83.set_0 | apply IsS83.set_1) | exact HI0.out)); (case side2 => repeat (first | (with_reducible first | exact HB.out | apply below_alloc | apply pw_below_drewN | apply below_drew1 | refine below_set ?_ (IsS83.ge HI0.out)) | exact HB.out)); rintro e w16 ⟨rfl, hi, hb, hk⟩; refine ⟨_, rfl, ?_⟩; have n0_ := Aside0.mk (KeepBut.trans (by repeat (first | (with_reducible first | exact HK.out | apply KeepBut.set_ | apply keep_drewN | apply keep_drew | apply keep_alloc) | exact HK.out)) hk (.inl rfl)); have n1_ := Aside0.mk (hb); have n2_ := Aside0.mk (hi); clear HK; clear HB; clear HI0; have HK := n0_; have HB := n1_; have HI0 := n2_; clear n0_ n1_ n2_; (try clear hb); (try clear hb2); (try clear hk); (try clear hi); obtain ⟨HGz17, hgz17⟩ := HI0.out; have hcz17_0 := cellS83_0 HGz17; have hcz17_1 := cellS83_1 HGz17; have hfz17_0 := blk_frozen HGz17 0; have hfz17_1 := blk_frozen HGz17 1; clear HGz17 hgz17))
  go_ret
  exact ⟨er, by repeat (first | (with_reducible first | exact HI0.out | apply IsS83.alloc | apply IsS83.drewN | apply IsS83.drew | apply IsS83.set_0 | apply IsS83.set_1) | exact HI0.out), by repeat (first | (with_reducible first | exact HB.out | apply below_alloc | apply pw_below_drewN | apply below_drew1 | refine below_set ?_ (IsS83.ge HI0.out)) | exact HB.out), by repeat (first | (with_reducible first | exact HK.out | apply KeepBut.set_ | apply keep_drewN | apply keep_drew | apply keep_alloc) | exact HK.out)⟩
 rw [if_pos c3] at H
 have c3b0 : (t200 == 0) = true := beq_iff_eq.mpr c3
 have c3b1 : (t200 != 0) = false := bne_eq_false_iff_eq.mpr c3
 clear c3
 by_cases c4 : t198 > 100000
 ·rw [if_pos c4] at H
  have c4b0 : decide (100000 < t198) = true := decide_eq_true c4
  clear c4
  simp only [Option.some.injEq, Prod.mk.injEq] at H
  obtain ⟨rfl, rfl, rfl⟩ := H
  go_enter Tryd.func39, Tryd.ntmps39
  go_wp2_with (first | ((with_reducible refine gate_callee (f := 40) rfl ?_); refine goesL_ (some 6) rfl rfl Tryd.func40 (by kernel_rfl) rfl #[.pointer (some ⟨g, 0, none⟩), .int .i64 4] rfl am ?_; (with_reducible refine (codec_reader_number.calls g s0_0 s0_1 4 t198 t199 t200 w0 _ ?side1 ?side2 A2.out).mono ?_); (case side1 => repeat (first | (with_reducible first | exact HI0.out | apply IsS83.alloc | apply IsS83.drewN | apply IsS83.drew | apply IsS83.set_0 | apply IsS83.set_1) | exact HI0.out)); (case side2 => repeat (first | (with_reducible first | exact HB.out | apply below_alloc | apply pw_below_drewN | apply below_drew1 | refine below_set ?_ (IsS83.ge HI0.out)) | exact HB.out)); rintro e w5 ⟨rfl, hi, hb, hk⟩; refine ⟨_, rfl, ?_⟩; have n0_ := Aside0.mk (KeepBut.trans (by repeat (first | (with_reducible first | exact HK.out | apply KeepBut.set_ | apply keep_drewN | apply keep_drew | apply keep_alloc) | exact HK.out)) hk (.inl rfl)); have n1_ := Aside0.mk (hb); have n2_ := Aside0.mk (hi); clear HK; clear HB; clear HI0; have HK := n0_; have HB := n1_; have HI0 := n2_; clear n0_ n1_ n2_; (try clear hb); (try clear hb2); (try clear hk); (try clear hi); obtain ⟨HGz6, hgz6⟩ := HI0.out; have hcz6_0 := cellS83_0 HGz6; have hcz6_1 := cellS83_1 HGz6; have hfz6_0 := blk_frozen HGz6 0; have hfz6_1 := blk_frozen HGz6 1; clear HGz6 hgz6))
  go_ret
  exact ⟨er, by repeat (first | (with_reducible first | exact HI0.out | apply IsS83.alloc | apply IsS83.drewN | apply IsS83.drew | apply IsS83.set_0 | apply IsS83.set_1) | exact HI0.out), by repeat (first | (with_reducible first | exact HB.out | apply below_alloc | apply pw_below_drewN | apply below_drew1 | refine below_set ?_ (IsS83.ge HI0.out)) | exact HB.out), by repeat (first | (with_reducible first | exact HK.out | apply KeepBut.set_ | apply keep_drewN | apply keep_drew | apply keep_alloc) | exact HK.out)⟩
 rw [if_neg c4] at H
 have c4b0 : decide (100000 < t198) = false := decide_eq_false c4
 clear c4
 by_cases c7 : t198 > (IntKind.u64.wrap ((t199.size : Int)))
 ·rw [if_pos c7] at H
  have c7b0 : decide ((IntKind.u64.wrap ((t199.size : Int))) < t198) = true := decide_eq_true c7
  clear c7
  simp only [Option.some.injEq, Prod.mk.injEq] at H
  obtain ⟨rfl, rfl, rfl⟩ := H
  go_enter Tryd.func39, Tryd.ntmps39
  go_wp2_with (first | ((with_reducible refine gate_callee (f := 40) rfl ?_); refine goesL_ (some 6) rfl rfl Tryd.func40 (by kernel_rfl) rfl #[.pointer (some ⟨g, 0, none⟩), .int .i64 4] rfl am ?_; (with_reducible refine (codec_reader_number.calls g s0_0 s0_1 4 t198 t199 t200 w0 _ ?side1 ?side2 A2.out).mono ?_); (case side1 => repeat (first | (with_reducible first | exact HI0.out | apply IsS83.alloc | apply IsS83.drewN | apply IsS83.drew | apply IsS83.set_0 | apply IsS83.set_1) | exact HI0.out)); (case side2 => repeat (first | (with_reducible first | exact HB.out | apply below_alloc | apply pw_below_drewN | apply below_drew1 | refine below_set ?_ (IsS83.ge HI0.out)) | exact HB.out)); rintro e w8 ⟨rfl, hi, hb, hk⟩; refine ⟨_, rfl, ?_⟩; have n0_ := Aside0.mk (KeepBut.trans (by repeat (first | (with_reducible first | exact HK.out | apply KeepBut.set_ | apply keep_drewN | apply keep_drew | apply keep_alloc) | exact HK.out)) hk (.inl rfl)); have n1_ := Aside0.mk (hb); have n2_ := Aside0.mk (hi); clear HK; clear HB; clear HI0; have HK := n0_; have HB := n1_; have HI0 := n2_; clear n0_ n1_ n2_; (try clear hb); (try clear hb2); (try clear hk); (try clear hi); obtain ⟨HGz9, hgz9⟩ := HI0.out; have hcz9_0 := cellS83_0 HGz9; have hcz9_1 := cellS83_1 HGz9; have hfz9_0 := blk_frozen HGz9 0; have hfz9_1 := blk_frozen HGz9 1; clear HGz9 hgz9))
  go_ret
  exact ⟨er, by repeat (first | (with_reducible first | exact HI0.out | apply IsS83.alloc | apply IsS83.drewN | apply IsS83.drew | apply IsS83.set_0 | apply IsS83.set_1) | exact HI0.out), by repeat (first | (with_reducible first | exact HB.out | apply below_alloc | apply pw_below_drewN | apply below_drew1 | refine below_set ?_ (IsS83.ge HI0.out)) | exact HB.out), by repeat (first | (with_reducible first | exact HK.out | apply KeepBut.set_ | apply keep_drewN | apply keep_drew | apply keep_alloc) | exact HK.out)⟩
 rw [if_neg c7] at H
 have c7b0 : decide ((IntKind.u64.wrap ((t199.size : Int))) < t198) = false := decide_eq_false c7
 clear c7
 by_cases c10 : 0 ≤ t198; rotate_left
 ·rw [if_neg c10] at H
  exact absurd H (by simp)
 rw [if_pos c10] at H
 have c10b0 := eq_true c10
 have c10b1 : decide (0 ≤ t198) = true := decide_eq_true c10
 clear c10
 by_cases c11 : t198 ≤ (t199.size : Int); rotate_left
 ·rw [if_neg c11] at H
  exact absurd H (by simp)
 rw [if_pos c11] at H
 have c11b0 := eq_true c11
 have c11b1 : decide (t198 ≤ (t199.size : Int)) = true := decide_eq_true c11
 clear c11
 have c12b0 := eq_true (od : 0 ≤ t198)
 have c13b0 := eq_true (od : t198 ≤ (t199.size : Int))
 simp only [Option.some.injEq, Prod.mk.injEq] at H
 obtain ⟨rfl, rfl, rfl⟩ := H
 go_enter Tryd.func39, Tryd.ntmps39
 go_wp2_with (first | ((with_reducible refine gate_callee (f := 40) rfl ?_); refine goesL_ (some 6) rfl rfl Tryd.func40 (by kernel_rfl) rfl #[.pointer (some ⟨g, 0, none⟩), .int .i64 4] rfl am ?_; (with_reducible refine (codec_reader_number.calls g s0_0 s0_1 4 t198 t199 t200 w0 _ ?side1 ?side2 A2.out).mono ?_); (case side1 => repeat (first | (with_reducible first | exact HI0.out | apply IsS83.alloc | apply IsS83.drewN | apply IsS83.drew | apply IsS83.set_0 | apply IsS83.set_1) | exact HI0.out)); (case side2 => repeat (first | (with_reducible first | exact HB.out | apply below_alloc | apply pw_below_drewN | apply below_drew1 | refine below_set ?_ (IsS83.ge HI0.out)) | exact HB.out)); rintro e w14 ⟨rfl, hi, hb, hk⟩; refine ⟨_, rfl, ?_⟩; have n0_ := Aside0.mk (KeepBut.trans (by repeat (first | (with_reducible first | exact HK.out | apply KeepBut.set_ | apply keep_drewN | apply keep_drew | apply keep_alloc) | exact HK.out)) hk (.inl rfl)); have n1_ := Aside0.mk (hb); have n2_ := Aside0.mk (hi); clear HK; clear HB; clear HI0; have HK := n0_; have HB := n1_; have HI0 := n2_; clear n0_ n1_ n2_; (try clear hb); (try clear hb2); (try clear hk); (try clear hi); obtain ⟨HGz15, hgz15⟩ := HI0.out; have hcz15_0 := cellS83_0 HGz15; have hcz15_1 := cellS83_1 HGz15; have hfz15_0 := blk_frozen HGz15 0; have hfz15_1 := blk_frozen HGz15 1; clear HGz15 hgz15))
 go_ret
 exact ⟨er, by repeat (first | (with_reducible first | exact HI0.out | apply IsS83.alloc | apply IsS83.drewN | apply IsS83.drew | apply IsS83.set_0 | apply IsS83.set_1) | exact HI0.out), by repeat (first | (with_reducible first | exact HB.out | apply below_alloc | apply pw_below_drewN | apply below_drew1 | refine below_set ?_ (IsS83.ge HI0.out)) | exact HB.out), by repeat (first | (with_reducible first | exact HK.out | apply KeepBut.set_ | apply keep_drewN | apply keep_drew | apply keep_alloc) | exact HK.out)⟩

end Go.Proofs.YtdpogggajdfedaaDoor.P
