-- Printed by this session's program wip/xp.py (a turned copy of the kit's printer): functions, their contracts.
import Derived.Test.YtocgbfcjmgpleaaDoorPx0
import Derived.Test.YtocgbfcjmgpleaaDoorPx9
namespace Go.Proofs.YtocgbfcjmgpleaaDoor.P
open Go.RowKit Go.Proofs.YtocgbfcjmgpleaaDoorW.PrintWords Go.Proofs.YtocgbfcjmgpleaaDoorW.PrintLast Go.Proofs.YtocgbfcjmgpleaaDoorW.PrintMore
attribute [local go_sem] max2_int min2_int max_two min_two max_three min_three max_four min_four   -- for this text's walks alone
set_option linter.unusedVariables false
set_option linter.unusedSimpArgs false

/-! ### carillonref01_one: function 26 -/
def carillonref01_one.f (k : Nat) (a0_0 : Int) (a0_1 : Int) (a0_2 : ByteArray) : Option (ByteArray × Int) := (carillonref01_width.f a0_0).bind fun t235 => (if t235 = 0 then (if a0_0 = 4 then (if t235 > 0 then (if a0_2.toList = ([] : List UInt8) then (if a0_1 = 0 then (if t235 < 8 then (if 0 ≤ (wrap64 (8 * t235)) then (if (shr .u64 a0_1 (wrap64 (8 * t235))) = 0 then ((carillonref01_num.f k a0_1 t235).bind fun t236 => (some (t236, 0))) else (some ((⟨#[]⟩ : ByteArray), 1))) else (none)) else ((carillonref01_num.f k a0_1 t235).bind fun t237 => (some (t237, 0)))) else (some ((⟨#[]⟩ : ByteArray), 1))) else (some ((⟨#[]⟩ : ByteArray), 1))) else (if a0_1 = 0 then (if (a0_2.size : Int) > 100000 then (some ((⟨#[]⟩ : ByteArray), 3)) else ((carillonref01_num.f k (IntKind.u64.wrap ((a0_2.size : Int))) 4).bind fun t238 => (if t238.size + a0_2.size ≤ 9223372036854775807 then (some (t238 ++ a0_2, 0)) else (none)))) else (some ((⟨#[]⟩ : ByteArray), 1)))) else (some ((⟨#[]⟩ : ByteArray), 1))) else (if t235 > 0 then (if a0_2.toList = ([] : List UInt8) then (if t235 < 8 then (if 0 ≤ (wrap64 (8 * t235)) then (if (shr .u64 a0_1 (wrap64 (8 * t235))) = 0 then ((carillonref01_num.f k a0_1 t235).bind fun t239 => (some (t239, 0))) else (some ((⟨#[]⟩ : ByteArray), 1))) else (none)) else ((carillonref01_num.f k a0_1 t235).bind fun t240 => (some (t240, 0)))) else (some ((⟨#[]⟩ : ByteArray), 1))) else (if (a0_2.size : Int) > 100000 then (some ((⟨#[]⟩ : ByteArray), 3)) else ((carillonref01_num.f k (IntKind.u64.wrap ((a0_2.size : Int))) 4).bind fun t241 => (if t241.size + a0_2.size ≤ 9223372036854775807 then (some (t241 ++ a0_2, 0)) else (none))))))
theorem carillonref01_one.mono : ∀ a0 a1 a2 k, LeO (carillonref01_one.f k a0 a1 a2) (carillonref01_one.f (k + 1) a0 a1 a2) := by
 intro a0 a1 a2 k
 unfold carillonref01_one.f
 repeat' first
   | (with_reducible exact carillonref01_num.mono _ _ _)
   | (with_reducible exact LeO.refl _)
   | (with_reducible exact LeO.none _)
   | (with_reducible refine LeO.ite ?_ ?_)
   | (with_reducible refine LeO.bind ?_ (fun _ => ?_))
   | exact carillonref01_num.mono _ _ _
   | exact LeO.none _
   | refine LeO.ite ?_ ?_
   | refine LeO.bind ?_ (fun _ => ?_)
def carillonref01_one.T8 : Bool × List (List Nat × List Nat) := (true, [([], []), ([0], [0]), ([1], [1]), ([2], [2]), ([3], [3]), ([], []), ([5], [5]), ([4, 6], [4, 6]), ([7, 4, 0, 1, 2, 3, 4, 5, 6, 7], [7]), ([8, 0, 1, 2, 3, 4, 5, 6, 7, 8], [])])
def carillonref01_one.B8 : List Nat := [0, 1, 3, 7, 15, 0, 32, 127, 255, 511]
theorem carillonref01_one.tab8 : rtab .any (opsOf Tryd.f26 8) = carillonref01_one.T8 := by kernel_rfl
theorem carillonref01_one.bits8 : waitsOk carillonref01_one.T8.2 carillonref01_one.B8 = true := by kernel_rfl
set_option maxHeartbeats 8000000 in
set_option maxRecDepth 100000 in
theorem carillonref01_one.calls (k : Nat) (a0_0 : Int) (a0_1 : Int) (a0_2 : ByteArray) (r1 : ByteArray) (r2 : Int) (w : World) (h : carillonref01_one.f k a0_0 a0_1 a0_2 = some (r1, r2)) :
  Calls Tryd.prog 26 #[.agg #[.int .i64 a0_0, .int .u64 a0_1, .string a0_2]] w fun e w' => e = .returned (.tuple #[.string r1, .int .i64 r2]) ∧ Below w.heap.size w w' := by
 have hu51 := Tryd.underlying51
 have HB := Aside0.mk (Below.refl w.heap.size w)
 have H : ((carillonref01_width.f a0_0).bind fun t235 => (if t235 = 0 then (if a0_0 = 4 then (if t235 > 0 then (if a0_2.toList = ([] : List UInt8) then (if a0_1 = 0 then (if t235 < 8 then (if 0 ≤ (wrap64 (8 * t235)) then (if (shr .u64 a0_1 (wrap64 (8 * t235))) = 0 then ((carillonref01_num.f k a0_1 t235).bind fun t236 => (some (t236, 0))) else (some ((⟨#[]⟩ : ByteArray), 1))) else (none)) else ((carillonref01_num.f k a0_1 t235).bind fun t237 => (some (t237, 0)))) else (some ((⟨#[]⟩ : ByteArray), 1))) else (some ((⟨#[]⟩ : ByteArray), 1))) else (if a0_1 = 0 then (if (a0_2.size : Int) > 100000 then (some ((⟨#[]⟩ : ByteArray), 3)) else ((carillonref01_num.f k (IntKind.u64.wrap ((a0_2.size : Int))) 4).bind fun t238 => (if t238.size + a0_2.size ≤ 9223372036854775807 then (some (t238 ++ a0_2, 0)) else (none)))) else (some ((⟨#[]⟩ : ByteArray), 1)))) else (some ((⟨#[]⟩ : ByteArray), 1))) else (if t235 > 0 then (if a0_2.toList = ([] : List UInt8) then (if t235 < 8 then (if 0 ≤ (wrap64 (8 * t235)) then (if (shr .u64 a0_1 (wrap64 (8 * t235))) = 0 then ((carillonref01_num.f k a0_1 t235).bind fun t239 => (some (t239, 0))) else (some ((⟨#[]⟩ : ByteArray), 1))) else (none)) else ((carillonref01_num.f k a0_1 t235).bind fun t240 => (some (t240, 0)))) else (some ((⟨#[]⟩ : ByteArray), 1))) else (if (a0_2.size : Int) > 100000 then (some ((⟨#[]⟩ : ByteArray), 3)) else ((carillonref01_num.f k (IntKind.u64.wrap ((a0_2.size : Int))) 4).bind fun t241 => (if t241.size + a0_2.size ≤ 9223372036854775807 then (some (t241 ++ a0_2, 0)) else (none))))))) = some (r1, r2) := h
 clear h
 replace H := Option.bind_eq_some_iff.mp H
 obtain ⟨t235, A20, H⟩ := H
 replace H : (if t235 = 0 then (if a0_0 = 4 then (if t235 > 0 then (if a0_2.toList = ([] : List UInt8) then (if a0_1 = 0 then (if t235 < 8 then (if 0 ≤ (wrap64 (8 * t235)) then (if (shr .u64 a0_1 (wrap64 (8 * t235))) = 0 then ((carillonref01_num.f k a0_1 t235).bind fun t236 => (some (t236, 0))) else (some ((⟨#[]⟩ : ByteArray), 1))) else (none)) else ((carillonref01_num.f k a0_1 t235).bind fun t237 => (some (t237, 0)))) else (some ((⟨#[]⟩ : ByteArray), 1))) else (some ((⟨#[]⟩ : ByteArray), 1))) else (if a0_1 = 0 then (if (a0_2.size : Int) > 100000 then (some ((⟨#[]⟩ : ByteArray), 3)) else ((carillonref01_num.f k (IntKind.u64.wrap ((a0_2.size : Int))) 4).bind fun t238 => (if t238.size + a0_2.size ≤ 9223372036854775807 then (some (t238 ++ a0_2, 0)) else (none)))) else (some ((⟨#[]⟩ : ByteArray), 1)))) else (some ((⟨#[]⟩ : ByteArray), 1))) else (if t235 > 0 then (if a0_2.toList = ([] : List UInt8) then (if t235 < 8 then (if 0 ≤ (wrap64 (8 * t235)) then (if (shr .u64 a0_1 (wrap64 (8 * t235))) = 0 then ((carillonref01_num.f k a0_1 t235).bind fun t239 => (some (t239, 0))) else (some ((⟨#[]⟩ : ByteArray), 1))) else (none)) else ((carillonref01_num.f k a0_1 t235).bind fun t240 => (some (t240, 0)))) else (some ((⟨#[]⟩ : ByteArray), 1))) else (if (a0_2.size : Int) > 100000 then (some ((⟨#[]⟩ : ByteArray), 3)) else ((carillonref01_num.f k (IntKind.u64.wrap ((a0_2.size : Int))) 4).bind fun t241 => (if t241.size + a0_2.size ≤ 9223372036854775807 then (some (t241 ++ a0_2, 0)) else (none)))))) = some (r1, r2) := H
 have A2 := Aside0.mk A20
 clear A20
 by_cases c3 : t235 = 0
 ·rw [if_pos c3] at H
  have c3b0 : (t235 == 0) = true := beq_iff_eq.mpr c3
  have c3b1 : (t235 != 0) = false := bne_eq_false_iff_eq.mpr c3
  clear c3
  by_cases c4 : a0_0 = 4
  ·rw [if_pos c4] at H
   have c4b0 : (a0_0 == 4) = true := beq_iff_eq.mpr c4
   have c4b1 : (a0_0 != 4) = false := bne_eq_false_iff_eq.mpr c4
   clear c4
   by_cases c5 : t235 > 0
   ·rw [if_pos c5] at H
    have c5b0 : decide (0 < t235) = true := decide_eq_true c5
    clear c5
    by_cases c6 : a0_2.toList = ([] : List UInt8)
    ·rw [if_pos c6] at H
     have c6b0 : (a0_2.toList == ([] : List UInt8)) = true := beq_iff_eq.mpr c6
     have c6b1 : (a0_2.toList != ([] : List UInt8)) = false := bne_eq_false_iff_eq.mpr c6
     clear c6
     by_cases c7 : a0_1 = 0
     ·rw [if_pos c7] at H
      have c7b0 : (a0_1 == 0) = true := beq_iff_eq.mpr c7
      have c7b1 : (a0_1 != 0) = false := bne_eq_false_iff_eq.mpr c7
      clear c7
      by_cases c8 : t235 < 8
      ·rw [if_pos c8] at H
       have c8b0 : decide (t235 < 8) = true := decide_eq_true c8
       clear c8
       obtain ⟨ji9, hji9⟩ : ∃ j_ : Int, (wrap64 (8 * t235)) = j_ := ⟨_, rfl⟩
       replace H : (if 0 ≤ (ji9) then (if (shr .u64 a0_1 (ji9)) = 0 then ((carillonref01_num.f k a0_1 t235).bind fun t236 => (some (t236, 0))) else (some ((⟨#[]⟩ : ByteArray), 1))) else (none)) = some (r1, r2) := by first | (rw [hji9] at H; exact H) | (simp only [hji9] at H ⊢; exact H)
       (try rw [hji9] at A2)
       have hji9w : (IntKind.i64.wrap (8 * t235)) = ji9 := (i64_w _).trans hji9
       by_cases c10 : 0 ≤ (ji9)
       ·rw [if_pos c10] at H
        have c10b0 := eq_true c10
        have c10b1 : decide (0 ≤ (ji9)) = true := decide_eq_true c10
        clear c10
        obtain ⟨ji11, hji11⟩ : ∃ j_ : Int, (shr .u64 a0_1 (ji9)) = j_ := ⟨_, rfl⟩
        replace H : (if (ji11) = 0 then ((carillonref01_num.f k a0_1 t235).bind fun t236 => (some (t236, 0))) else (some ((⟨#[]⟩ : ByteArray), 1))) = some (r1, r2) := by first | (rw [hji11] at H; exact H) | (simp only [hji11] at H ⊢; exact H)
        (try rw [hji11] at A2)
        have hji11_ : (a0_1 / 2 ^ min (ji9).toNat 64) = ji11 := hji11
        have hji11z : (ji9) ≤ 64 → (a0_1 / 2 ^ (ji9).toNat) = ji11 := shr_small hji11
        by_cases c12 : (ji11) = 0
        ·rw [if_pos c12] at H
         have c12b0 : ((ji11) == 0) = true := beq_iff_eq.mpr c12
         have c12b1 : ((ji11) != 0) = false := bne_eq_false_iff_eq.mpr c12
         clear c12
         replace H := Option.bind_eq_some_iff.mp H
         obtain ⟨t236, A130, H⟩ := H
         replace H : (some (t236, 0)) = some (r1, r2) := H
         have A13 := Aside0.mk A130
         clear A130
         simp only [Option.some.injEq, Prod.mk.injEq] at H
         obtain ⟨rfl, rfl⟩ := H
         go_enter Tryd.func26, Tryd.ntmps26
         go_wp2_with (first | ((with_reducible refine gate_dst (N := 1) rfl ?_); refine box_event ?hg (N := 1) ?hd (cs := #[.int .i64 a0_0, .int .u64 a0_1, .string a0_2]) (t := 51) ?hr ?_; (case hd => rfl); (case hg => rfl); (case hr => first | (go_simp; done) | (go_simp; rfl)); intro gb234 hg w14 hbox hb; have n0_ := Aside0.mk (below_step bw hb); have n1_ := Aside0.mk (hbox); have n2_ := Aside0.mk ((g1 hg bw : w.heap.size ≤ gb234)); have n3_ := Aside0.mk ((g1 hg bw : w.heap.size ≤ gb234)); clear HB; have HB := n0_; have BK234 := n1_; have GW234 := n2_; have GE234 := n3_; clear n0_ n1_ n2_ n3_; clear hb hbox hg; have hcz15_0 := bc3_0 BK234.out; have hcz15_1 := bc3_1 BK234.out; have hcz15_2 := bc3_2 BK234.out; have hfz15_0 := blk_frozen BK234.out 0; have hfz15_1 := blk_frozen BK234.out 1; have hfz15_2 := blk_frozen BK234.out 2) | ((with_reducible refine gate_callee (f := 34) rfl ?_); refine goesL_ (some 7) rfl rfl Tryd.func34 (by kernel_rfl) rfl #[.int .i64 a0_0] rfl am ?_; (with_reducible refine (carillonref01_width.calls a0_0 t235 _ A2.out).mono ?_); rintro e w' ⟨rfl, ⟨nd, rfl⟩⟩; refine ⟨_, rfl, ?_⟩) | ((with_reducible refine gate_callee (f := 35) rfl ?_); refine goesL_ (some 54) rfl rfl Tryd.func35 (by kernel_rfl) rfl #[.int .u64 a0_1, .int .i64 t235] rfl am ?_; (with_reducible refine (carillonref01_num.calls k a0_1 t235 t236 _ A13.out).mono ?_); rintro e w16 ⟨rfl, hb⟩; refine ⟨_, rfl, ?_⟩; have n0_ := Aside0.mk (nb BK234.out hb); have n1_ := Aside0.mk (below_step bw hb); clear BK234; clear HB; have BK234 := n0_; have HB := n1_; clear n0_ n1_; (try clear hb); (try clear hb2); (try clear hk); (try clear hi)))
         go_ret2
         exact ⟨by first | rfl | (simp [errW_none, errW_some] <;> rfl) | (simp only [← hji9, ← hji11]; first | rfl | (simp [errW_none, errW_some] <;> rfl)) | (simp [*, errW_none, errW_some] <;> rfl), bw⟩
        ·rw [if_neg c12] at H
         have c12b0 : ((ji11) == 0) = false := beq_eq_false_iff_ne.mpr c12
         have c12b1 : ((ji11) != 0) = true := bne_iff_ne.mpr c12
         simp only [Option.some.injEq, Prod.mk.injEq] at H
         obtain ⟨rfl, rfl⟩ := H
         go_enter Tryd.func26, Tryd.ntmps26
         go_wp2_with (first | ((with_reducible refine gate_dst (N := 1) rfl ?_); refine box_event ?hg (N := 1) ?hd (cs := #[.int .i64 a0_0, .int .u64 a0_1, .string a0_2]) (t := 51) ?hr ?_; (case hd => rfl); (case hg => rfl); (case hr => first | (go_simp; done) | (go_simp; rfl)); intro gb234 hg w17 hbox hb; have n0_ := Aside0.mk (below_step bw hb); have n1_ := Aside0.mk (hbox); have n2_ := Aside0.mk ((g1 hg bw : w.heap.size ≤ gb234)); have n3_ := Aside0.mk ((g1 hg bw : w.heap.size ≤ gb234)); clear HB; have HB := n0_; have BK234 := n1_; have GW234 := n2_; have GE234 := n3_; clear n0_ n1_ n2_ n3_; clear hb hbox hg; have hcz18_0 := bc3_0 BK234.out; have hcz18_1 := bc3_1 BK234.out; have hcz18_2 := bc3_2 BK234.out; have hfz18_0 := blk_frozen BK234.out 0; have hfz18_1 := blk_frozen BK234.out 1; have hfz18_2 := blk_frozen BK234.out 2) | ((with_reducible refine gate_callee (f := 34) rfl ?_); refine goesL_ (some 7) rfl rfl Tryd.func34 (by kernel_rfl) rfl #[.int .i64 a0_0] rfl am ?_; (with_reducible refine (carillonref01_width.calls a0_0 t235 _ A2.out).mono ?_); rintro e w' ⟨rfl, ⟨nd, rfl⟩⟩; refine ⟨_, rfl, ?_⟩))
         go_ret2
         exact ⟨by first | rfl | (simp [errW_none, errW_some] <;> rfl) | (simp only [← hji9, ← hji11]; first | rfl | (simp [errW_none, errW_some] <;> rfl)) | (simp [*, errW_none, errW_some] <;> rfl), bw⟩
       ·rw [if_neg c10] at H
        exact absurd H (by simp)
      ·rw [if_neg c8] at H
       have c8b0 : decide (t235 < 8) = false := decide_eq_false c8
       clear c8
       replace H := Option.bind_eq_some_iff.mp H
       obtain ⟨t237, A190, H⟩ := H
       replace H : (some (t237, 0)) = some (r1, r2) := H
       have A19 := Aside0.mk A190
       clear A190
       simp only [Option.some.injEq, Prod.mk.injEq] at H
       obtain ⟨rfl, rfl⟩ := H
       go_enter Tryd.func26, Tryd.ntmps26
       go_wp2_with (first | ((with_reducible refine gate_dst (N := 1) rfl ?_); refine box_event ?hg (N := 1) ?hd (cs := #[.int .i64 a0_0, .int .u64 a0_1, .string a0_2]) (t := 51) ?hr ?_; (case hd => rfl); (case hg => rfl); (case hr => first | (go_simp; done) | (go_simp; rfl)); intro gb234 hg w20 hbox hb; have n0_ := Aside0.mk (below_step bw hb); have n1_ := Aside0.mk (hbox); have n2_ := Aside0.mk ((g1 hg bw : w.heap.size ≤ gb234)); have n3_ := Aside0.mk ((g1 hg bw : w.heap.size ≤ gb234)); clear HB; have HB := n0_; have BK234 := n1_; have GW234 := n2_; have GE234 := n3_; clear n0_ n1_ n2_ n3_; clear hb hbox hg; have hcz21_0 := bc3_0 BK234.out; have hcz21_1 := bc3_1 BK234.out; have hcz21_2 := bc3_2 BK234.out; have hfz21_0 := blk_frozen BK234.out 0; have hfz21_1 := blk_frozen BK234.out 1; have hfz21_2 := blk_frozen BK234.out 2) | ((with_reducible refine gate_callee (f := 34) rfl ?_); refine goesL_ (some 7) rfl rfl Tryd.func34 (by kernel_rfl) rfl #[.int .i64 a0_0] rfl am ?_; (with_reducible refine (carillonref01_width.calls a0_0 t235 _ A2.out).mono ?_); rintro e w' ⟨rfl, ⟨nd, rfl⟩⟩; refine ⟨_, rfl, ?_⟩) | ((with_reducible refine gate_callee (f := 35) rfl ?_); refine goesL_ (some 54) rfl rfl Tryd.func35 (by kernel_rfl) rfl #[.int .u64 a0_1, .int .i64 t235] rfl am ?_; (with_reducible refine (carillonref01_num.calls k a0_1 t235 t237 _ A19.out).mono ?_); rintro e w22 ⟨rfl, hb⟩; refine ⟨_, rfl, ?_⟩; have n0_ := Aside0.mk (nb BK234.out hb); have n1_ := Aside0.mk (below_step bw hb); clear BK234; clear HB; have BK234 := n0_; have HB := n1_; clear n0_ n1_; (try clear hb); (try clear hb2); (try clear hk); (try clear hi)))
       go_ret2
       exact ⟨er, bw⟩
     ·rw [if_neg c7] at H
      have c7b0 : (a0_1 == 0) = false := beq_eq_false_iff_ne.mpr c7
      have c7b1 : (a0_1 != 0) = true := bne_iff_ne.mpr c7
      simp only [Option.some.injEq, Prod.mk.injEq] at H
      obtain ⟨rfl, rfl⟩ := H
      go_enter Tryd.func26, Tryd.ntmps26
      go_wp2_with (first | ((with_reducible refine gate_dst (N := 1) rfl ?_); refine box_event ?hg (N := 1) ?hd (cs := #[.int .i64 a0_0, .int .u64 a0_1, .string a0_2]) (t := 51) ?hr ?_; (case hd => rfl); (case hg => rfl); (case hr => first | (go_simp; done) | (go_simp; rfl)); intro gb234 hg w23 hbox hb; have n0_ := Aside0.mk (below_step bw hb); have n1_ := Aside0.mk (hbox); have n2_ := Aside0.mk ((g1 hg bw : w.heap.size ≤ gb234)); have n3_ := Aside0.mk ((g1 hg bw : w.heap.size ≤ gb234)); clear HB; have HB := n0_; have BK234 := n1_; have GW234 := n2_; have GE234 := n3_; clear n0_ n1_ n2_ n3_; clear hb hbox hg; have hcz24_0 := bc3_0 BK234.out; have hcz24_1 := bc3_1 BK234.out; have hcz24_2 := bc3_2 BK234.out; have hfz24_0 := blk_frozen BK234.out 0; have hfz24_1 := blk_frozen BK234.out 1; have hfz24_2 := blk_frozen BK234.out 2) | ((with_reducible refine gate_callee (f := 34) rfl ?_); refine goesL_ (some 7) rfl rfl Tryd.func34 (by kernel_rfl) rfl #[.int .i64 a0_0] rfl am ?_; (with_reducible refine (carillonref01_width.calls a0_0 t235 _ A2.out).mono ?_); rintro e w' ⟨rfl, ⟨nd, rfl⟩⟩; refine ⟨_, rfl, ?_⟩))
      go_ret2
      exact ⟨er, bw⟩
    ·rw [if_neg c6] at H
     have c6b0 : (a0_2.toList == ([] : List UInt8)) = false := beq_eq_false_iff_ne.mpr c6
     have c6b1 : (a0_2.toList != ([] : List UInt8)) = true := bne_iff_ne.mpr c6
     simp only [Option.some.injEq, Prod.mk.injEq] at H
     obtain ⟨rfl, rfl⟩ := H
     go_enter Tryd.func26, Tryd.ntmps26
     go_wp2_with (first | ((with_reducible refine gate_dst (N := 1) rfl ?_); refine box_event ?hg (N := 1) ?hd (cs := #[.int .i64 a0_0, .int .u64 a0_1, .string a0_2]) (t := 51) ?hr ?_; (case hd => rfl); (case hg => rfl); (case hr => first | (go_simp; done) | (go_simp; rfl)); intro gb234 hg w25 hbox hb; have n0_ := Aside0.mk (below_step bw hb); have n1_ := Aside0.mk (hbox); have n2_ := Aside0.mk ((g1 hg bw : w.heap.size ≤ gb234)); have n3_ := Aside0.mk ((g1 hg bw : w.heap.size ≤ gb234)); clear HB; have HB := n0_; have BK234 := n1_; have GW234 := n2_; have GE234 := n3_; clear n0_ n1_ n2_ n3_; clear hb hbox hg; have hcz26_0 := bc3_0 BK234.out; have hcz26_1 := bc3_1 BK234.out; have hcz26_2 := bc3_2 BK234.out; have hfz26_0 := blk_frozen BK234.out 0; have hfz26_1 := blk_frozen BK234.out 1; have hfz26_2 := blk_frozen BK234.out 2) | ((with_reducible refine gate_callee (f := 34) rfl ?_); refine goesL_ (some 7) rfl rfl Tryd.func34 (by kernel_rfl) rfl #[.int .i64 a0_0] rfl am ?_; (with_reducible refine (carillonref01_width.calls a0_0 t235 _ A2.out).mono ?_); rintro e w' ⟨rfl, ⟨nd, rfl⟩⟩; refine ⟨_, rfl, ?_⟩))
     go_ret2
     exact ⟨er, bw⟩
   ·rw [if_neg c5] at H
    have c5b0 : decide (0 < t235) = false := decide_eq_false c5
    clear c5
    by_cases c27 : a0_1 = 0
    ·rw [if_pos c27] at H
     have c27b0 : (a0_1 == 0) = true := beq_iff_eq.mpr c27
     have c27b1 : (a0_1 != 0) = false := bne_eq_false_iff_eq.mpr c27
     clear c27
     by_cases c28 : (a0_2.size : Int) > 100000
     ·rw [if_pos c28] at H
      have c28b0 : decide (100000 < (a0_2.size : Int)) = true := decide_eq_true c28
      have c28b1 : decide (100000 < a0_2.size) = true := decide_eq_true (by omega)
      clear c28
      simp only [Option.some.injEq, Prod.mk.injEq] at H
      obtain ⟨rfl, rfl⟩ := H
      go_enter Tryd.func26, Tryd.ntmps26
      go_wp2_with (first | ((with_reducible refine gate_dst (N := 1) rfl ?_); refine box_event ?hg (N := 1) ?hd (cs := #[.int .i64 a0_0, .int .u64 a0_1, .string a0_2]) (t := 51) ?hr ?_; (case hd => rfl); (case hg => rfl); (case hr => first | (go_simp; done) | (go_simp; rfl)); intro gb234 hg w29 hbox hb; have n0_ := Aside0.mk (below_step bw hb); have n1_ := Aside0.mk (hbox); have n2_ := Aside0.mk ((g1 hg bw : w.heap.size ≤ gb234)); have n3_ := Aside0.mk ((g1 hg bw : w.heap.size ≤ gb234)); clear HB; have HB := n0_; have BK234 := n1_; have GW234 := n2_; have GE234 := n3_; clear n0_ n1_ n2_ n3_; clear hb hbox hg; have hcz30_0 := bc3_0 BK234.out; have hcz30_1 := bc3_1 BK234.out; have hcz30_2 := bc3_2 BK234.out; have hfz30_0 := blk_frozen BK234.out 0; have hfz30_1 := blk_frozen BK234.out 1; have hfz30_2 := blk_frozen BK234.out 2) | ((with_reducible refine gate_callee (f := 34) rfl ?_); refine goesL_ (some 7) rfl rfl Tryd.func34 (by kernel_rfl) rfl #[.int .i64 a0_0] rfl am ?_; (with_reducible refine (carillonref01_width.calls a0_0 t235 _ A2.out).mono ?_); rintro e w' ⟨rfl, ⟨nd, rfl⟩⟩; refine ⟨_, rfl, ?_⟩))
      go_ret2
      exact ⟨er, bw⟩
     ·rw [if_neg c28] at H
      have c28b0 : decide (100000 < (a0_2.size : Int)) = false := decide_eq_false c28
      have c28b1 : decide (100000 < a0_2.size) = false := decide_eq_false (by omega)
      clear c28
      replace H := Option.bind_eq_some_iff.mp H
      obtain ⟨t238, A310, H⟩ := H
      replace H : (if t238.size + a0_2.size ≤ 9223372036854775807 then (some (t238 ++ a0_2, 0)) else (none)) = some (r1, r2) := H
      have A31 := Aside0.mk A310
      clear A310
      by_cases c32 : t238.size + a0_2.size ≤ 9223372036854775807
      ·rw [if_pos c32] at H
       have c32b0 := eq_true c32
       have c32b1 : decide (t238.size + a0_2.size ≤ 9223372036854775807) = true := decide_eq_true c32
       try have c32b2 : (9223372036854775807 < t238.size + a0_2.size) = False := eq_false (Nat.not_lt.2 c32)
       simp only [Option.some.injEq, Prod.mk.injEq] at H
       obtain ⟨rfl, rfl⟩ := H
       go_enter Tryd.func26, Tryd.ntmps26
       try go_wp2_with (first | ((with_reducible refine gate_dst (N := 1) rfl ?_); refine box_event ?hg (N := 1) ?hd (cs := #[.int .i64 a0_0, .int .u64 a0_1, .string a0_2]) (t := 51) ?hr ?_; (case hd => rfl); (case hg => rfl); (case hr => first | (go_simp; done) | (go_simp; rfl)); intro gb234 hg w33 hbox hb; have n0_ := Aside0.mk (below_step bw hb); have n1_ := Aside0.mk (hbox); have n2_ := Aside0.mk ((g1 hg bw : w.heap.size ≤ gb234)); have n3_ := Aside0.mk ((g1 hg bw : w.heap.size ≤ gb234)); clear HB; have HB := n0_; have BK234 := n1_; have GW234 := n2_; have GE234 := n3_; clear n0_ n1_ n2_ n3_; clear hb hbox hg; have hcz34_0 := bc3_0 BK234.out; have hcz34_1 := bc3_1 BK234.out; have hcz34_2 := bc3_2 BK234.out; have hfz34_0 := blk_frozen BK234.out 0; have hfz34_1 := blk_frozen BK234.out 1; have hfz34_2 := blk_frozen BK234.out 2) | ((with_reducible refine gate_callee (f := 34) rfl ?_); refine goesL_ (some 7) rfl rfl Tryd.func34 (by kernel_rfl) rfl #[.int .i64 a0_0] rfl am ?_; (with_reducible refine (carillonref01_width.calls a0_0 t235 _ A2.out).mono ?_); rintro e w' ⟨rfl, ⟨nd, rfl⟩⟩; refine ⟨_, rfl, ?_⟩))
       (try (rw [drewN_self w33]; generalize hq_ : World.drewN w33 _ = w33; have n0_ : Aside0 (w33.heap[gb234]? = some (.cells #[.int .i64 a0_0, .int .u64 a0_1, .string a0_2] 51 (0, 0))) := ⟨by rw [← hq_]; exact (bk BK234.out)⟩; have n1_ : Aside0 (Below w.heap.size w w33) := ⟨by rw [← hq_]; exact bw⟩; clear BK234 HB hq_; have BK234 := n0_; have HB := n1_; clear n0_ n1_))
       have n0_ := Aside0.mk (blk_drew BK234.out)
       have n1_ := Aside0.mk (below_drew1 HB.out)
       clear BK234
       clear HB
       have BK234 := n0_
       have HB := n1_
       clear n0_ n1_
       refine start_ (n := 10) (S := fun w' => w'.cell? ⟨gb234, 0, none⟩ = some (.int .i64 a0_0) ∧ w'.cell? ⟨gb234, 1, none⟩ = some (.int .u64 a0_1) ∧ w'.cell? ⟨gb234, 2, none⟩ = some (.string a0_2)) (ds := []) #[false, false, false, false, false, false, false, false, false, false] (by kernel_rfl) rfl rfl ⟨(blk_cell BK234.out 0).trans rfl, (blk_cell BK234.out 1).trans rfl, (blk_cell BK234.out 2).trans rfl⟩ (fun hHeld => ?_); refine with_tabW carillonref01_one.tab8 carillonref01_one.bits8 (fun HT_ HW_ => ?_)
       generalize w33.drew = w35 at BK234 HB hHeld ⊢
       refine pure_ (i := 0) (N := some 59) (v := ?_) (a' := ?_) #[true, false, false, false, false, false, false, false, false, false] rfl rfl (any_of HT_.out (by kernel_rfl)) (fun _ _ _ h => h) (Or.inl ⟨by rfl, ?_⟩) ?_ ?_
       rotate_left
       ·intro w'
        go_simp
        with_reducible rfl
       rotate_left
       ·simp only [Act.put, sl1, sl2, sl3, i64_w, i32_w]
        rfl
       refine pure_ (i := 5) (N := some 64) (v := ?_) (a' := ?_) #[true, false, false, false, false, true, false, false, false, false] rfl rfl (any_of HT_.out (by kernel_rfl)) (fun _ _ _ h => h) (Or.inl ⟨by rfl, ?_⟩) ?_ ?_
       rotate_left
       ·intro w'
        go_simp
        with_reducible rfl
       rotate_left
       ·simp only [Act.put, sl1, sl2, sl3, i64_w, i32_w]
        rfl
       refine take_ (i := 1) (N := some 60) (v := ?_) (a' := ?_) #[true, true, false, false, false, true, false, false, false, false] rfl rfl (take_ofW HT_.out HW_.out (by kernel_rfl)) (fun _ _ _ h => h) (Or.inl ⟨by rfl, ?_⟩) hHeld ?_ ?_
       rotate_left
       ·rintro w' ⟨s0, s1, s2⟩
        go_simp
        with_reducible rfl
       rotate_left
       ·simp only [Act.put, sl1, sl2, sl3, i64_w, i32_w]
        rfl
       refine pure_ (i := 2) (N := some 61) (v := ?_) (a' := ?_) #[true, true, true, false, false, true, false, false, false, false] rfl rfl (any_of HT_.out (by kernel_rfl)) (fun _ _ _ h => h) (Or.inl ⟨by rfl, ?_⟩) ?_ ?_
       rotate_left
       ·intro w'
        go_simp
        with_reducible rfl
       rotate_left
       ·simp only [Act.put, sl1, sl2, sl3, i64_w, i32_w]
        rfl
       refine pure_ (i := 3) (N := some 62) (v := ?_) (a' := ?_) #[true, true, true, true, false, true, false, false, false, false] rfl rfl (any_of HT_.out (by kernel_rfl)) (fun _ _ _ h => h) (Or.inl ⟨by rfl, ?_⟩) ?_ ?_
       rotate_left
       ·intro w'
        go_simp
        with_reducible rfl
       rotate_left
       ·simp only [Act.put, sl1, sl2, sl3, i64_w, i32_w]
        rfl
       refine take_ (i := 6) (N := some 65) (v := ?_) (a' := ?_) #[true, true, true, true, false, true, true, false, false, false] rfl rfl (take_ofW HT_.out HW_.out (by kernel_rfl)) (fun _ _ _ h => h) (Or.inl ⟨by rfl, ?_⟩) hHeld ?_ ?_
       rotate_left
       ·rintro w' ⟨s0, s1, s2⟩
        go_simp
        with_reducible rfl
       rotate_left
       ·simp only [Act.put, sl1, sl2, sl3, i64_w, i32_w]
        rfl
       refine one_ (i := 4) (N := some 63) #[true, true, true, true, true, true, true, false, false, false] rfl rfl (one_of HT_.out (by kernel_rfl)) (by decide) (fun K hK => ?_)
       refine goes_ Tryd.func35 (by kernel_rfl) rfl #[.int .u64 (IntKind.u64.wrap ((a0_2.size : Int))), .int .i64 4] (by rfl) rfl rfl am ?_
       with_reducible refine (carillonref01_num.calls k (IntKind.u64.wrap ((a0_2.size : Int))) 4 t238 _ A31.out).mono ?_
       rintro e w36 ⟨rfl, hb⟩
       refine ⟨_, rfl, ?_⟩
       have n0_ := Aside0.mk (nb BK234.out hb)
       have n1_ := Aside0.mk (below_step bw hb)
       clear BK234
       clear HB
       have BK234 := n0_
       have HB := n1_
       clear n0_ n1_
       (try clear hb)
       (try clear hb2)
       (try clear hk)
       (try clear hi)
       refine hK.out _ _ ⟨(blk_cell BK234.out 0).trans rfl, (blk_cell BK234.out 1).trans rfl, (blk_cell BK234.out 2).trans rfl⟩ (fun hHeld => ?_)
       clear hK K
       refine norm_ (a' := ?_) ?_ ?_
       rotate_left
       ·show Act.put _ (some 63) _ = _
        simp only [Act.put, sl1, sl2, sl3, i64_w, i32_w]
        rfl
       refine pure_ (i := 7) (N := some 66) (v := ?_) (a' := ?_) #[true, true, true, true, true, true, true, true, false, false] rfl rfl (any_of HT_.out (by kernel_rfl)) (fun _ _ _ h => h) (Or.inl ⟨by rfl, ?_⟩) ?_ ?_
       rotate_left
       ·intro w'
        go_simp
        with_reducible rfl
       rotate_left
       ·simp only [Act.put, sl1, sl2, sl3, i64_w, i32_w]
        rfl
       refine pure_ (i := 8) (N := some 2) (v := ?_) (a' := ?_) #[true, true, true, true, true, true, true, true, true, false] rfl rfl (any_of HT_.out (by kernel_rfl)) (fun _ _ _ h => h) (Or.inl ⟨by rfl, ?_⟩) ?_ ?_
       rotate_left
       ·intro w'
        go_simp
        with_reducible rfl
       rotate_left
       ·simp only [Act.put, sl1, sl2, sl3, i64_w, i32_w]
        rfl
       refine pure_ (i := 9) (N := some 3) (v := ?_) (a' := ?_) #[true, true, true, true, true, true, true, true, true, true] rfl rfl (any_of HT_.out (by kernel_rfl)) (fun _ _ _ h => h) (Or.inl ⟨by rfl, ?_⟩) ?_ ?_
       rotate_left
       ·intro w'
        go_simp
        with_reducible rfl
       rotate_left
       ·simp only [Act.put, sl1, sl2, sl3, i64_w, i32_w]
        rfl
       refine done_ (done_of HT_.out (by kernel_rfl)) ?_
       try go_wp2
       go_ret2
       exact ⟨er, bw⟩
      ·rw [if_neg c32] at H
       exact absurd H (by simp)
    ·rw [if_neg c27] at H
     have c27b0 : (a0_1 == 0) = false := beq_eq_false_iff_ne.mpr c27
     have c27b1 : (a0_1 != 0) = true := bne_iff_ne.mpr c27
     simp only [Option.some.injEq, Prod.mk.injEq] at H
     obtain ⟨rfl, rfl⟩ := H
     go_enter Tryd.func26, Tryd.ntmps26
     go_wp2_with (first | ((with_reducible refine gate_dst (N := 1) rfl ?_); refine box_event ?hg (N := 1) ?hd (cs := #[.int .i64 a0_0, .int .u64 a0_1, .string a0_2]) (t := 51) ?hr ?_; (case hd => rfl); (case hg => rfl); (case hr => first | (go_simp; done) | (go_simp; rfl)); intro gb234 hg w37 hbox hb; have n0_ := Aside0.mk (below_step bw hb); have n1_ := Aside0.mk (hbox); have n2_ := Aside0.mk ((g1 hg bw : w.heap.size ≤ gb234)); have n3_ := Aside0.mk ((g1 hg bw : w.heap.size ≤ gb234)); clear HB; have HB := n0_; have BK234 := n1_; have GW234 := n2_; have GE234 := n3_; clear n0_ n1_ n2_ n3_; clear hb hbox hg; have hcz38_0 := bc3_0 BK234.out; have hcz38_1 := bc3_1 BK234.out; have hcz38_2 := bc3_2 BK234.out; have hfz38_0 := blk_frozen BK234.out 0; have hfz38_1 := blk_frozen BK234.out 1; have hfz38_2 := blk_frozen BK234.out 2) | ((with_reducible refine gate_callee (f := 34) rfl ?_); refine goesL_ (some 7) rfl rfl Tryd.func34 (by kernel_rfl) rfl #[.int .i64 a0_0] rfl am ?_; (with_reducible refine (carillonref01_width.calls a0_0 t235 _ A2.out).mono ?_); rintro e w' ⟨rfl, ⟨nd, rfl⟩⟩; refine ⟨_, rfl, ?_⟩))
     go_ret2
     exact ⟨er, bw⟩
  ·rw [if_neg c4] at H
   have c4b0 : (a0_0 == 4) = false := beq_eq_false_iff_ne.mpr c4
   have c4b1 : (a0_0 != 4) = true := bne_iff_ne.mpr c4
   simp only [Option.some.injEq, Prod.mk.injEq] at H
   obtain ⟨rfl, rfl⟩ := H
   go_enter Tryd.func26, Tryd.ntmps26
   go_wp2_with (first | ((with_reducible refine gate_dst (N := 1) rfl ?_); refine box_event ?hg (N := 1) ?hd (cs := #[.int .i64 a0_0, .int .u64 a0_1, .string a0_2]) (t := 51) ?hr ?_; (case hd => rfl); (case hg => rfl); (case hr => first | (go_simp; done) | (go_simp; rfl)); intro gb234 hg w39 hbox hb; have n0_ := Aside0.mk (below_step bw hb); have n1_ := Aside0.mk (hbox); have n2_ := Aside0.mk ((g1 hg bw : w.heap.size ≤ gb234)); have n3_ := Aside0.mk ((g1 hg bw : w.heap.size ≤ gb234)); clear HB; have HB := n0_; have BK234 := n1_; have GW234 := n2_; have GE234 := n3_; clear n0_ n1_ n2_ n3_; clear hb hbox hg; have hcz40_0 := bc3_0 BK234.out; have hcz40_1 := bc3_1 BK234.out; have hcz40_2 := bc3_2 BK234.out; have hfz40_0 := blk_frozen BK234.out 0; have hfz40_1 := blk_frozen BK234.out 1; have hfz40_2 := blk_frozen BK234.out 2) | ((with_reducible refine gate_callee (f := 34) rfl ?_); refine goesL_ (some 7) rfl rfl Tryd.func34 (by kernel_rfl) rfl #[.int .i64 a0_0] rfl am ?_; (with_reducible refine (carillonref01_width.calls a0_0 t235 _ A2.out).mono ?_); rintro e w' ⟨rfl, ⟨nd, rfl⟩⟩; refine ⟨_, rfl, ?_⟩))
   go_ret2
   exact ⟨er, bw⟩
 ·rw [if_neg c3] at H
  have c3b0 : (t235 == 0) = false := beq_eq_false_iff_ne.mpr c3
  have c3b1 : (t235 != 0) = true := bne_iff_ne.mpr c3
  by_cases c41 : t235 > 0
  ·rw [if_pos c41] at H
   have c41b0 : decide (0 < t235) = true := decide_eq_true c41
   clear c41
   by_cases c42 : a0_2.toList = ([] : List UInt8)
   ·rw [if_pos c42] at H
    have c42b0 : (a0_2.toList == ([] : List UInt8)) = true := beq_iff_eq.mpr c42
    have c42b1 : (a0_2.toList != ([] : List UInt8)) = false := bne_eq_false_iff_eq.mpr c42
    clear c42
    by_cases c43 : t235 < 8
    ·rw [if_pos c43] at H
     have c43b0 : decide (t235 < 8) = true := decide_eq_true c43
     clear c43
     obtain ⟨ji44, hji44⟩ : ∃ j_ : Int, (wrap64 (8 * t235)) = j_ := ⟨_, rfl⟩
     replace H : (if 0 ≤ (ji44) then (if (shr .u64 a0_1 (ji44)) = 0 then ((carillonref01_num.f k a0_1 t235).bind fun t239 => (some (t239, 0))) else (some ((⟨#[]⟩ : ByteArray), 1))) else (none)) = some (r1, r2) := by first | (rw [hji44] at H; exact H) | (simp only [hji44] at H ⊢; exact H)
     (try rw [hji44] at A2)
     have hji44w : (IntKind.i64.wrap (8 * t235)) = ji44 := (i64_w _).trans hji44
     by_cases c45 : 0 ≤ (ji44)
     ·rw [if_pos c45] at H
      have c45b0 := eq_true c45
      have c45b1 : decide (0 ≤ (ji44)) = true := decide_eq_true c45
      clear c45
      obtain ⟨ji46, hji46⟩ : ∃ j_ : Int, (shr .u64 a0_1 (ji44)) = j_ := ⟨_, rfl⟩
      replace H : (if (ji46) = 0 then ((carillonref01_num.f k a0_1 t235).bind fun t239 => (some (t239, 0))) else (some ((⟨#[]⟩ : ByteArray), 1))) = some (r1, r2) := by first | (rw [hji46] at H; exact H) | (simp only [hji46] at H ⊢; exact H)
      (try rw [hji46] at A2)
      have hji46_ : (a0_1 / 2 ^ min (ji44).toNat 64) = ji46 := hji46
      have hji46z : (ji44) ≤ 64 → (a0_1 / 2 ^ (ji44).toNat) = ji46 := shr_small hji46
      by_cases c47 : (ji46) = 0
      ·rw [if_pos c47] at H
       have c47b0 : ((ji46) == 0) = true := beq_iff_eq.mpr c47
       have c47b1 : ((ji46) != 0) = false := bne_eq_false_iff_eq.mpr c47
       clear c47
       replace H := Option.bind_eq_some_iff.mp H
       obtain ⟨t239, A480, H⟩ := H
       replace H : (some (t239, 0)) = some (r1, r2) := H
       have A48 := Aside0.mk A480
       clear A480
       simp only [Option.some.injEq, Prod.mk.injEq] at H
       obtain ⟨rfl, rfl⟩ := H
       go_enter Tryd.func26, Tryd.ntmps26
       go_wp2_with (first | ((with_reducible refine gate_dst (N := 1) rfl ?_); refine box_event ?hg (N := 1) ?hd (cs := #[.int .i64 a0_0, .int .u64 a0_1, .string a0_2]) (t := 51) ?hr ?_; (case hd => rfl); (case hg => rfl); (case hr => first | (go_simp; done) | (go_simp; rfl)); intro gb234 hg w49 hbox hb; have n0_ := Aside0.mk (below_step bw hb); have n1_ := Aside0.mk (hbox); have n2_ := Aside0.mk ((g1 hg bw : w.heap.size ≤ gb234)); have n3_ := Aside0.mk ((g1 hg bw : w.heap.size ≤ gb234)); clear HB; have HB := n0_; have BK234 := n1_; have GW234 := n2_; have GE234 := n3_; clear n0_ n1_ n2_ n3_; clear hb hbox hg; have hcz50_0 := bc3_0 BK234.out; have hcz50_1 := bc3_1 BK234.out; have hcz50_2 := bc3_2 BK234.out; have hfz50_0 := blk_frozen BK234.out 0; have hfz50_1 := blk_frozen BK234.out 1; have hfz50_2 := blk_frozen BK234.out 2) | ((with_reducible refine gate_callee (f := 34) rfl ?_); refine goesL_ (some 7) rfl rfl Tryd.func34 (by kernel_rfl) rfl #[.int .i64 a0_0] rfl am ?_; (with_reducible refine (carillonref01_width.calls a0_0 t235 _ A2.out).mono ?_); rintro e w' ⟨rfl, ⟨nd, rfl⟩⟩; refine ⟨_, rfl, ?_⟩) | ((with_reducible refine gate_callee (f := 35) rfl ?_); refine goesL_ (some 54) rfl rfl Tryd.func35 (by kernel_rfl) rfl #[.int .u64 a0_1, .int .i64 t235] rfl am ?_; (with_reducible refine (carillonref01_num.calls k a0_1 t235 t239 _ A48.out).mono ?_); rintro e w51 ⟨rfl, hb⟩; refine ⟨_, rfl, ?_⟩; have n0_ := Aside0.mk (nb BK234.out hb); have n1_ := Aside0.mk (below_step bw hb); clear BK234; clear HB; have BK234 := n0_; have HB := n1_; clear n0_ n1_; (try clear hb); (try clear hb2); (try clear hk); (try clear hi)))
       go_ret2
       exact ⟨by first | rfl | (simp [errW_none, errW_some] <;> rfl) | (simp only [← hji44, ← hji46]; first | rfl | (simp [errW_none, errW_some] <;> rfl)) | (simp [*, errW_none, errW_some] <;> rfl), bw⟩
      ·rw [if_neg c47] at H
       have c47b0 : ((ji46) == 0) = false := beq_eq_false_iff_ne.mpr c47
       have c47b1 : ((ji46) != 0) = true := bne_iff_ne.mpr c47
       simp only [Option.some.injEq, Prod.mk.injEq] at H
       obtain ⟨rfl, rfl⟩ := H
       go_enter Tryd.func26, Tryd.ntmps26
       go_wp2_with (first | ((with_reducible refine gate_dst (N := 1) rfl ?_); refine box_event ?hg (N := 1) ?hd (cs := #[.int .i64 a0_0, .int .u64 a0_1, .string a0_2]) (t := 51) ?hr ?_; (case hd => rfl); (case hg => rfl); (case hr => first | (go_simp; done) | (go_simp; rfl)); intro gb234 hg w52 hbox hb; have n0_ := Aside0.mk (below_step bw hb); have n1_ := Aside0.mk (hbox); have n2_ := Aside0.mk ((g1 hg bw : w.heap.size ≤ gb234)); have n3_ := Aside0.mk ((g1 hg bw : w.heap.size ≤ gb234)); clear HB; have HB := n0_; have BK234 := n1_; have GW234 := n2_; have GE234 := n3_; clear n0_ n1_ n2_ n3_; clear hb hbox hg; have hcz53_0 := bc3_0 BK234.out; have hcz53_1 := bc3_1 BK234.out; have hcz53_2 := bc3_2 BK234.out; have hfz53_0 := blk_frozen BK234.out 0; have hfz53_1 := blk_frozen BK234.out 1; have hfz53_2 := blk_frozen BK234.out 2) | ((with_reducible refine gate_callee (f := 34) rfl ?_); refine goesL_ (some 7) rfl rfl Tryd.func34 (by kernel_rfl) rfl #[.int .i64 a0_0] rfl am ?_; (with_reducible refine (carillonref01_width.calls a0_0 t235 _ A2.out).mono ?_); rintro e w' ⟨rfl, ⟨nd, rfl⟩⟩; refine ⟨_, rfl, ?_⟩))
       go_ret2
       exact ⟨by first | rfl | (simp [errW_none, errW_some] <;> rfl) | (simp only [← hji44, ← hji46]; first | rfl | (simp [errW_none, errW_some] <;> rfl)) | (simp [*, errW_none, errW_some] <;> rfl), bw⟩
     ·rw [if_neg c45] at H
      exact absurd H (by simp)
    ·rw [if_neg c43] at H
     have c43b0 : decide (t235 < 8) = false := decide_eq_false c43
     clear c43
     replace H := Option.bind_eq_some_iff.mp H
     obtain ⟨t240, A540, H⟩ := H
     replace H : (some (t240, 0)) = some (r1, r2) := H
     have A54 := Aside0.mk A540
     clear A540
     simp only [Option.some.injEq, Prod.mk.injEq] at H
     obtain ⟨rfl, rfl⟩ := H
     go_enter Tryd.func26, Tryd.ntmps26
     go_wp2_with (first | ((with_reducible refine gate_dst (N := 1) rfl ?_); refine box_event ?hg (N := 1) ?hd (cs := #[.int .i64 a0_0, .int .u64 a0_1, .string a0_2]) (t := 51) ?hr ?_; (case hd => rfl); (case hg => rfl); (case hr => first | (go_simp; done) | (go_simp; rfl)); intro gb234 hg w55 hbox hb; have n0_ := Aside0.mk (below_step bw hb); have n1_ := Aside0.mk (hbox); have n2_ := Aside0.mk ((g1 hg bw : w.heap.size ≤ gb234)); have n3_ := Aside0.mk ((g1 hg bw : w.heap.size ≤ gb234)); clear HB; have HB := n0_; have BK234 := n1_; have GW234 := n2_; have GE234 := n3_; clear n0_ n1_ n2_ n3_; clear hb hbox hg; have hcz56_0 := bc3_0 BK234.out; have hcz56_1 := bc3_1 BK234.out; have hcz56_2 := bc3_2 BK234.out; have hfz56_0 := blk_frozen BK234.out 0; have hfz56_1 := blk_frozen BK234.out 1; have hfz56_2 := blk_frozen BK234.out 2) | ((with_reducible refine gate_callee (f := 34) rfl ?_); refine goesL_ (some 7) rfl rfl Tryd.func34 (by kernel_rfl) rfl #[.int .i64 a0_0] rfl am ?_; (with_reducible refine (carillonref01_width.calls a0_0 t235 _ A2.out).mono ?_); rintro e w' ⟨rfl, ⟨nd, rfl⟩⟩; refine ⟨_, rfl, ?_⟩) | ((with_reducible refine gate_callee (f := 35) rfl ?_); refine goesL_ (some 54) rfl rfl Tryd.func35 (by kernel_rfl) rfl #[.int .u64 a0_1, .int .i64 t235] rfl am ?_; (with_reducible refine (carillonref01_num.calls k a0_1 t235 t240 _ A54.out).mono ?_); rintro e w57 ⟨rfl, hb⟩; refine ⟨_, rfl, ?_⟩; have n0_ := Aside0.mk (nb BK234.out hb); have n1_ := Aside0.mk (below_step bw hb); clear BK234; clear HB; have BK234 := n0_; have HB := n1_; clear n0_ n1_; (try clear hb); (try clear hb2); (try clear hk); (try clear hi)))
     go_ret2
     exact ⟨er, bw⟩
   ·rw [if_neg c42] at H
    have c42b0 : (a0_2.toList == ([] : List UInt8)) = false := beq_eq_false_iff_ne.mpr c42
    have c42b1 : (a0_2.toList != ([] : List UInt8)) = true := bne_iff_ne.mpr c42
    simp only [Option.some.injEq, Prod.mk.injEq] at H
    obtain ⟨rfl, rfl⟩ := H
    go_enter Tryd.func26, Tryd.ntmps26
    go_wp2_with (first | ((with_reducible refine gate_dst (N := 1) rfl ?_); refine box_event ?hg (N := 1) ?hd (cs := #[.int .i64 a0_0, .int .u64 a0_1, .string a0_2]) (t := 51) ?hr ?_; (case hd => rfl); (case hg => rfl); (case hr => first | (go_simp; done) | (go_simp; rfl)); intro gb234 hg w58 hbox hb; have n0_ := Aside0.mk (below_step bw hb); have n1_ := Aside0.mk (hbox); have n2_ := Aside0.mk ((g1 hg bw : w.heap.size ≤ gb234)); have n3_ := Aside0.mk ((g1 hg bw : w.heap.size ≤ gb234)); clear HB; have HB := n0_; have BK234 := n1_; have GW234 := n2_; have GE234 := n3_; clear n0_ n1_ n2_ n3_; clear hb hbox hg; have hcz59_0 := bc3_0 BK234.out; have hcz59_1 := bc3_1 BK234.out; have hcz59_2 := bc3_2 BK234.out; have hfz59_0 := blk_frozen BK234.out 0; have hfz59_1 := blk_frozen BK234.out 1; have hfz59_2 := blk_frozen BK234.out 2) | ((with_reducible refine gate_callee (f := 34) rfl ?_); refine goesL_ (some 7) rfl rfl Tryd.func34 (by kernel_rfl) rfl #[.int .i64 a0_0] rfl am ?_; (with_reducible refine (carillonref01_width.calls a0_0 t235 _ A2.out).mono ?_); rintro e w' ⟨rfl, ⟨nd, rfl⟩⟩; refine ⟨_, rfl, ?_⟩))
    go_ret2
    exact ⟨er, bw⟩
  ·rw [if_neg c41] at H
   have c41b0 : decide (0 < t235) = false := decide_eq_false c41
   clear c41
   by_cases c60 : (a0_2.size : Int) > 100000
   ·rw [if_pos c60] at H
    have c60b0 : decide (100000 < (a0_2.size : Int)) = true := decide_eq_true c60
    have c60b1 : decide (100000 < a0_2.size) = true := decide_eq_true (by omega)
    clear c60
    simp only [Option.some.injEq, Prod.mk.injEq] at H
    obtain ⟨rfl, rfl⟩ := H
    go_enter Tryd.func26, Tryd.ntmps26
    go_wp2_with (first | ((with_reducible refine gate_dst (N := 1) rfl ?_); refine box_event ?hg (N := 1) ?hd (cs := #[.int .i64 a0_0, .int .u64 a0_1, .string a0_2]) (t := 51) ?hr ?_; (case hd => rfl); (case hg => rfl); (case hr => first | (go_simp; done) | (go_simp; rfl)); intro gb234 hg w61 hbox hb; have n0_ := Aside0.mk (below_step bw hb); have n1_ := Aside0.mk (hbox); have n2_ := Aside0.mk ((g1 hg bw : w.heap.size ≤ gb234)); have n3_ := Aside0.mk ((g1 hg bw : w.heap.size ≤ gb234)); clear HB; have HB := n0_; have BK234 := n1_; have GW234 := n2_; have GE234 := n3_; clear n0_ n1_ n2_ n3_; clear hb hbox hg; have hcz62_0 := bc3_0 BK234.out; have hcz62_1 := bc3_1 BK234.out; have hcz62_2 := bc3_2 BK234.out; have hfz62_0 := blk_frozen BK234.out 0; have hfz62_1 := blk_frozen BK234.out 1; have hfz62_2 := blk_frozen BK234.out 2) | ((with_reducible refine gate_callee (f := 34) rfl ?_); refine goesL_ (some 7) rfl rfl Tryd.func34 (by kernel_rfl) rfl #[.int .i64 a0_0] rfl am ?_; (with_reducible refine (carillonref01_width.calls a0_0 t235 _ A2.out).mono ?_); rintro e w' ⟨rfl, ⟨nd, rfl⟩⟩; refine ⟨_, rfl, ?_⟩))
    go_ret2
    exact ⟨er, bw⟩
   ·rw [if_neg c60] at H
    have c60b0 : decide (100000 < (a0_2.size : Int)) = false := decide_eq_false c60
    have c60b1 : decide (100000 < a0_2.size) = false := decide_eq_false (by omega)
    clear c60
    replace H := Option.bind_eq_some_iff.mp H
    obtain ⟨t241, A630, H⟩ := H
    replace H : (if t241.size + a0_2.size ≤ 9223372036854775807 then (some (t241 ++ a0_2, 0)) else (none)) = some (r1, r2) := H
    have A63 := Aside0.mk A630
    clear A630
    by_cases c64 : t241.size + a0_2.size ≤ 9223372036854775807
    ·rw [if_pos c64] at H
     have c64b0 := eq_true c64
     have c64b1 : decide (t241.size + a0_2.size ≤ 9223372036854775807) = true := decide_eq_true c64
     try have c64b2 : (9223372036854775807 < t241.size + a0_2.size) = False := eq_false (Nat.not_lt.2 c64)
     simp only [Option.some.injEq, Prod.mk.injEq] at H
     obtain ⟨rfl, rfl⟩ := H
     go_enter Tryd.func26, Tryd.ntmps26
     try go_wp2_with (first | ((with_reducible refine gate_dst (N := 1) rfl ?_); refine box_event ?hg (N := 1) ?hd (cs := #[.int .i64 a0_0, .int .u64 a0_1, .string a0_2]) (t := 51) ?hr ?_; (case hd => rfl); (case hg => rfl); (case hr => first | (go_simp; done) | (go_simp; rfl)); intro gb234 hg w65 hbox hb; have n0_ := Aside0.mk (below_step bw hb); have n1_ := Aside0.mk (hbox); have n2_ := Aside0.mk ((g1 hg bw : w.heap.size ≤ gb234)); have n3_ := Aside0.mk ((g1 hg bw : w.heap.size ≤ gb234)); clear HB; have HB := n0_; have BK234 := n1_; have GW234 := n2_; have GE234 := n3_; clear n0_ n1_ n2_ n3_; clear hb hbox hg; have hcz66_0 := bc3_0 BK234.out; have hcz66_1 := bc3_1 BK234.out; have hcz66_2 := bc3_2 BK234.out; have hfz66_0 := blk_frozen BK234.out 0; have hfz66_1 := blk_frozen BK234.out 1; have hfz66_2 := blk_frozen BK234.out 2) | ((with_reducible refine gate_callee (f := 34) rfl ?_); refine goesL_ (some 7) rfl rfl Tryd.func34 (by kernel_rfl) rfl #[.int .i64 a0_0] rfl am ?_; (with_reducible refine (carillonref01_width.calls a0_0 t235 _ A2.out).mono ?_); rintro e w' ⟨rfl, ⟨nd, rfl⟩⟩; refine ⟨_, rfl, ?_⟩))
     (try (rw [drewN_self w65]; generalize hq_ : World.drewN w65 _ = w65; have n0_ : Aside0 (w65.heap[gb234]? = some (.cells #[.int .i64 a0_0, .int .u64 a0_1, .string a0_2] 51 (0, 0))) := ⟨by rw [← hq_]; exact (bk BK234.out)⟩; have n1_ : Aside0 (Below w.heap.size w w65) := ⟨by rw [← hq_]; exact bw⟩; clear BK234 HB hq_; have BK234 := n0_; have HB := n1_; clear n0_ n1_))
     have n0_ := Aside0.mk (blk_drew BK234.out)
     have n1_ := Aside0.mk (below_drew1 HB.out)
     clear BK234
     clear HB
     have BK234 := n0_
     have HB := n1_
     clear n0_ n1_
     refine start_ (n := 10) (S := fun w' => w'.cell? ⟨gb234, 0, none⟩ = some (.int .i64 a0_0) ∧ w'.cell? ⟨gb234, 1, none⟩ = some (.int .u64 a0_1) ∧ w'.cell? ⟨gb234, 2, none⟩ = some (.string a0_2)) (ds := []) #[false, false, false, false, false, false, false, false, false, false] (by kernel_rfl) rfl rfl ⟨(blk_cell BK234.out 0).trans rfl, (blk_cell BK234.out 1).trans rfl, (blk_cell BK234.out 2).trans rfl⟩ (fun hHeld => ?_); refine with_tabW carillonref01_one.tab8 carillonref01_one.bits8 (fun HT_ HW_ => ?_)
     generalize w65.drew = w67 at BK234 HB hHeld ⊢
     refine pure_ (i := 0) (N := some 59) (v := ?_) (a' := ?_) #[true, false, false, false, false, false, false, false, false, false] rfl rfl (any_of HT_.out (by kernel_rfl)) (fun _ _ _ h => h) (Or.inl ⟨by rfl, ?_⟩) ?_ ?_
     rotate_left
     ·intro w'
      go_simp
      with_reducible rfl
     rotate_left
     ·simp only [Act.put, sl1, sl2, sl3, i64_w, i32_w]
      rfl
     refine pure_ (i := 5) (N := some 64) (v := ?_) (a' := ?_) #[true, false, false, false, false, true, false, false, false, false] rfl rfl (any_of HT_.out (by kernel_rfl)) (fun _ _ _ h => h) (Or.inl ⟨by rfl, ?_⟩) ?_ ?_
     rotate_left
     ·intro w'
      go_simp
      with_reducible rfl
     rotate_left
     ·simp only [Act.put, sl1, sl2, sl3, i64_w, i32_w]
      rfl
     refine take_ (i := 1) (N := some 60) (v := ?_) (a' := ?_) #[true, true, false, false, false, true, false, false, false, false] rfl rfl (take_ofW HT_.out HW_.out (by kernel_rfl)) (fun _ _ _ h => h) (Or.inl ⟨by rfl, ?_⟩) hHeld ?_ ?_
     rotate_left
     ·rintro w' ⟨s0, s1, s2⟩
      go_simp
      with_reducible rfl
     rotate_left
     ·simp only [Act.put, sl1, sl2, sl3, i64_w, i32_w]
      rfl
     refine pure_ (i := 2) (N := some 61) (v := ?_) (a' := ?_) #[true, true, true, false, false, true, false, false, false, false] rfl rfl (any_of HT_.out (by kernel_rfl)) (fun _ _ _ h => h) (Or.inl ⟨by rfl, ?_⟩) ?_ ?_
     rotate_left
     ·intro w'
      go_simp
      with_reducible rfl
     rotate_left
     ·simp only [Act.put, sl1, sl2, sl3, i64_w, i32_w]
      rfl
     refine pure_ (i := 3) (N := some 62) (v := ?_) (a' := ?_) #[true, true, true, true, false, true, false, false, false, false] rfl rfl (any_of HT_.out (by kernel_rfl)) (fun _ _ _ h => h) (Or.inl ⟨by rfl, ?_⟩) ?_ ?_
     rotate_left
     ·intro w'
      go_simp
      with_reducible rfl
     rotate_left
     ·simp only [Act.put, sl1, sl2, sl3, i64_w, i32_w]
      rfl
     refine take_ (i := 6) (N := some 65) (v := ?_) (a' := ?_) #[true, true, true, true, false, true, true, false, false, false] rfl rfl (take_ofW HT_.out HW_.out (by kernel_rfl)) (fun _ _ _ h => h) (Or.inl ⟨by rfl, ?_⟩) hHeld ?_ ?_
     rotate_left
     ·rintro w' ⟨s0, s1, s2⟩
      go_simp
      with_reducible rfl
     rotate_left
     ·simp only [Act.put, sl1, sl2, sl3, i64_w, i32_w]
      rfl
     refine one_ (i := 4) (N := some 63) #[true, true, true, true, true, true, true, false, false, false] rfl rfl (one_of HT_.out (by kernel_rfl)) (by decide) (fun K hK => ?_)
     refine goes_ Tryd.func35 (by kernel_rfl) rfl #[.int .u64 (IntKind.u64.wrap ((a0_2.size : Int))), .int .i64 4] (by rfl) rfl rfl am ?_
     with_reducible refine (carillonref01_num.calls k (IntKind.u64.wrap ((a0_2.size : Int))) 4 t241 _ A63.out).mono ?_
     rintro e w68 ⟨rfl, hb⟩
     refine ⟨_, rfl, ?_⟩
     have n0_ := Aside0.mk (nb BK234.out hb)
     have n1_ := Aside0.mk (below_step bw hb)
     clear BK234
     clear HB
     have BK234 := n0_
     have HB := n1_
     clear n0_ n1_
     (try clear hb)
     (try clear hb2)
     (try clear hk)
     (try clear hi)
     refine hK.out _ _ ⟨(blk_cell BK234.out 0).trans rfl, (blk_cell BK234.out 1).trans rfl, (blk_cell BK234.out 2).trans rfl⟩ (fun hHeld => ?_)
     clear hK K
     refine norm_ (a' := ?_) ?_ ?_
     rotate_left
     ·show Act.put _ (some 63) _ = _
      simp only [Act.put, sl1, sl2, sl3, i64_w, i32_w]
      rfl
     refine pure_ (i := 7) (N := some 66) (v := ?_) (a' := ?_) #[true, true, true, true, true, true, true, true, false, false] rfl rfl (any_of HT_.out (by kernel_rfl)) (fun _ _ _ h => h) (Or.inl ⟨by rfl, ?_⟩) ?_ ?_
     rotate_left
     ·intro w'
      go_simp
      with_reducible rfl
     rotate_left
     ·simp only [Act.put, sl1, sl2, sl3, i64_w, i32_w]
      rfl
     refine pure_ (i := 8) (N := some 2) (v := ?_) (a' := ?_) #[true, true, true, true, true, true, true, true, true, false] rfl rfl (any_of HT_.out (by kernel_rfl)) (fun _ _ _ h => h) (Or.inl ⟨by rfl, ?_⟩) ?_ ?_
     rotate_left
     ·intro w'
      go_simp
      with_reducible rfl
     rotate_left
     ·simp only [Act.put, sl1, sl2, sl3, i64_w, i32_w]
      rfl
     refine pure_ (i := 9) (N := some 3) (v := ?_) (a' := ?_) #[true, true, true, true, true, true, true, true, true, true] rfl rfl (any_of HT_.out (by kernel_rfl)) (fun _ _ _ h => h) (Or.inl ⟨by rfl, ?_⟩) ?_ ?_
     rotate_left
     ·intro w'
      go_simp
      with_reducible rfl
     rotate_left
     ·simp only [Act.put, sl1, sl2, sl3, i64_w, i32_w]
      rfl
     refine done_ (done_of HT_.out (by kernel_rfl)) ?_
     try go_wp2
     go_ret2
     exact ⟨er, bw⟩
    ·rw [if_neg c64] at H
     exact absurd H (by simp)

/-! ### carillonref01_Encode: function 18 -/
def carillonref01_Encode.l0 : Nat → List (S51) → ByteArray → Int → Option (ByteArray × Int)
 | 0, _, _, _ => none
 | k + 1, x0, x4, x5 => if x5 < (x0.length : Int) then (if 0 ≤ x5 then ((carillonref01_one.f k ((rd_T51 x0 x5).f0) ((rd_T51 x0 x5).f1) ((rd_T51 x0 x5).f2)).bind fun bt243 => (if bt243.2 = 0 then (if x4.size + bt243.1.size ≤ 9223372036854775807 then (carillonref01_Encode.l0 k x0 (x4 ++ bt243.1) (wrap64 (x5 + 1))) else (none)) else (some ((⟨#[]⟩ : ByteArray), bt243.2)))) else (none)) else (some (x4, 0))
def carillonref01_Encode.f (k : Nat) (l0 : List (S51)) : Option (ByteArray × Int) := if (l0.length : Int) > 1000 then (some ((⟨#[]⟩ : ByteArray), 3)) else (carillonref01_Encode.l0 k l0 (⟨#[]⟩ : ByteArray) 0)
theorem carillonref01_Encode.mono_l : ∀ k, (∀ y0 y1 y2, LeO (carillonref01_Encode.l0 k y0 y1 y2) (carillonref01_Encode.l0 (k + 1) y0 y1 y2))
 | 0 => fun _ _ _ r h => by simp [carillonref01_Encode.l0] at h
 | k + 1 => by
  have ih0 := carillonref01_Encode.mono_l k
  ·intro y0 y1 y2
   unfold carillonref01_Encode.l0
   repeat' first
   | (with_reducible exact ih0 _ _ _)
   | (with_reducible exact carillonref01_one.mono _ _ _ _)
   | (with_reducible exact LeO.refl _)
   | (with_reducible exact LeO.none _)
   | (with_reducible refine LeO.ite ?_ ?_)
   | (with_reducible refine LeO.bind ?_ (fun _ => ?_))
   | exact ih0 _ _ _
   | exact carillonref01_one.mono _ _ _ _
   | exact LeO.none _
   | refine LeO.ite ?_ ?_
   | refine LeO.bind ?_ (fun _ => ?_)
theorem carillonref01_Encode.mono : ∀ a0 k, LeO (carillonref01_Encode.f k a0) (carillonref01_Encode.f (k + 1) a0) := by
 intro a0 k
 have ih0 := carillonref01_Encode.mono_l k
 unfold carillonref01_Encode.f
 repeat' first
   | (with_reducible exact ih0 _ _ _)
   | (with_reducible exact carillonref01_one.mono _ _ _ _)
   | (with_reducible exact LeO.refl _)
   | (with_reducible exact LeO.none _)
   | (with_reducible refine LeO.ite ?_ ?_)
   | (with_reducible refine LeO.bind ?_ (fun _ => ?_))
   | exact ih0 _ _ _
   | exact carillonref01_one.mono _ _ _ _
   | exact LeO.none _
   | refine LeO.ite ?_ ?_
   | refine LeO.bind ?_ (fun _ => ?_)
set_option maxHeartbeats 8000000 in
set_option maxRecDepth 100000 in
theorem carillonref01_Encode.calls (k : Nat) (A0 : Option Addr) (c0 : Nat) (l0 : List (S51)) (r1 : ByteArray) (r2 : Int) (w : World) (hr0 : Kd.C k51 w A0 l0.length l0) (hc0 : l0.length ≤ c0) (h : carillonref01_Encode.f k l0 = some (r1, r2)) :
  Calls Tryd.prog 18 #[.slice A0 l0.length c0] w fun e w' => e = .returned (.tuple #[.string r1, .int .i64 r2]) ∧ Below w.heap.size w w' := by
 have hu51 := Tryd.underlying51
 have HR0 := Aside0.mk hr0
 have HC0 := Aside0.mk hc0
 clear hr0 hc0
 have HB := Aside0.mk (Below.refl w.heap.size w)
 have H : (if (l0.length : Int) > 1000 then (some ((⟨#[]⟩ : ByteArray), 3)) else (carillonref01_Encode.l0 k l0 (⟨#[]⟩ : ByteArray) 0)) = some (r1, r2) := h
 clear h
 by_cases c2 : (l0.length : Int) > 1000
 ·rw [if_pos c2] at H
  have c2b0 : decide (1000 < (l0.length : Int)) = true := decide_eq_true c2
  have c2b1 : decide (1000 < l0.length) = true := decide_eq_true (by omega)
  clear c2
  simp only [Option.some.injEq, Prod.mk.injEq] at H
  obtain ⟨rfl, rfl⟩ := H
  go_enter Tryd.func18, Tryd.ntmps18
  go_wp2
  go_ret2
  exact ⟨er, bw⟩
 ·rw [if_neg c2] at H
  have c2b0 : decide (1000 < (l0.length : Int)) = false := decide_eq_false c2
  have c2b1 : decide (1000 < l0.length) = false := decide_eq_false (by omega)
  clear c2
  have H' := Aside0.mk H
  clear H
  go_enter Tryd.func18, Tryd.ntmps18
  go_wp2
  go_loopg [4, 5] k (fun kq v4 v5 w' => ∃ (x4_1 : ByteArray) (x5_1 : Int), v4 = .string x4_1 ∧ v5 = .int .i64 x5_1 ∧ Aside0 (carillonref01_Encode.l0 kq l0 x4_1 x5_1 = some (r1, r2)) ∧ Aside0 (kq ≤ k) ∧ Aside0 (Below w.heap.size w w'))
  case atStart => exact ⟨((⟨#[]⟩ : ByteArray)), (0), (by first | rfl | (simp; done) | (simp [*]; done)), (by first | rfl | (simp; done) | (simp [*]; done)), H', ⟨Nat.le_refl _⟩, ⟨bw⟩⟩
  case round =>
   clear H'
   try clear c1
   try clear c2
   try clear c2b0
   try clear c2b1
   try clear p2
   obtain ⟨x4_1, x5_1, rfl, rfl, HA, HK1, HB⟩ := hrel
   cases gk with
   | zero => exact absurd HA.out (by simp [carillonref01_Encode.l0])
   | succ k1 =>
    have H := HA.out
    clear HA
    simp only [carillonref01_Encode.l0] at H
    by_cases c3 : x5_1 < (l0.length : Int)
    ·rw [if_pos c3] at H
     have c3b0 : decide (x5_1 < (l0.length : Int)) = true := decide_eq_true c3
     clear c3
     by_cases c4 : 0 ≤ x5_1
     ·rw [if_pos c4] at H
      have c4b0 : decide (0 ≤ x5_1) = true := decide_eq_true c4
      clear c4
      replace H := Option.bind_eq_some_iff.mp H
      obtain ⟨⟨t243, t244⟩, A50, H⟩ := H
      replace H : (if t244 = 0 then (if x4_1.size + t243.size ≤ 9223372036854775807 then (carillonref01_Encode.l0 k1 l0 (x4_1 ++ t243) (wrap64 (x5_1 + 1))) else (none)) else (some ((⟨#[]⟩ : ByteArray), t244))) = some (r1, r2) := H
      have A5 := Aside0.mk A50
      clear A50
      by_cases c6 : t244 = 0
      ·rw [if_pos c6] at H
       have c6b0 : (t244 == 0) = true := beq_iff_eq.mpr c6
       have c6b1 : (t244 != 0) = false := bne_eq_false_iff_eq.mpr c6
       clear c6
       by_cases c7 : x4_1.size + t243.size ≤ 9223372036854775807
       ·rw [if_pos c7] at H
        have c7b0 := eq_true c7
        have c7b1 : decide (x4_1.size + t243.size ≤ 9223372036854775807) = true := decide_eq_true c7
        try have c7b2 : (9223372036854775807 < x4_1.size + t243.size) = False := eq_false (Nat.not_lt.2 c7)
        have H' := Aside0.mk H
        clear H
        have p242 : 0 ≤ (x5_1 : Int) := of_decide_eq_true (by first | (with_reducible assumption) | assumption)
        have q242 : x5_1 < (l0.length : Int) := of_decide_eq_true (by first | (with_reducible assumption) | assumption)
        obtain ⟨ad242, e242, hx242_0, hx242_1, hx242_2⟩ := at_T51 HR0.out x5_1 p242 q242
        cases e242
        replace hx242_0 := (HB.out.cell (World.block_lt_of_cell? w _ hx242_0)).trans hx242_0
        replace hx242_1 := (HB.out.cell (World.block_lt_of_cell? w _ hx242_1)).trans hx242_1
        replace hx242_2 := (HB.out.cell (World.block_lt_of_cell? w _ hx242_2)).trans hx242_2
        replace p242 := eq_true p242
        replace q242 := eq_true q242
        go_wp2_with (first | ((with_reducible refine gate_callee (f := 26) rfl ?_); refine goesL_ (some 22) rfl rfl Tryd.func26 (by kernel_rfl) rfl #[.agg #[.int .i64 ((rd_T51 l0 x5_1).f0), .int .u64 ((rd_T51 l0 x5_1).f1), .string ((rd_T51 l0 x5_1).f2)]] rfl am ?_; (with_reducible refine (carillonref01_one.calls k1 ((rd_T51 l0 x5_1).f0) ((rd_T51 l0 x5_1).f1) ((rd_T51 l0 x5_1).f2) t243 t244 _ A5.out).mono ?_); rintro e w8 ⟨rfl, hb⟩; refine ⟨_, rfl, ?_⟩; have n0_ := Aside0.mk (below_step bw hb); clear HB; have HB := n0_; clear n0_; (try clear hb); (try clear hb2); (try clear hk); (try clear hi)))
        go_roundg k1
        case measure => have := HK1.out; omega
        case rel => exact ⟨(x4_1 ++ t243), (wrap64 (x5_1 + 1)), (by first | rfl | (simp; done) | (simp [*]; done)), (by first | rfl | (simp; done) | (simp [*]; done)), H', ⟨by have := HK1.out; omega⟩, ⟨bw⟩⟩
       ·rw [if_neg c7] at H
        exact absurd H (by simp)
      ·rw [if_neg c6] at H
       have c6b0 : (t244 == 0) = false := beq_eq_false_iff_ne.mpr c6
       have c6b1 : (t244 != 0) = true := bne_iff_ne.mpr c6
       simp only [Option.some.injEq, Prod.mk.injEq] at H
       obtain ⟨rfl, rfl⟩ := H
       have p242 : 0 ≤ (x5_1 : Int) := of_decide_eq_true (by first | (with_reducible assumption) | assumption)
       have q242 : x5_1 < (l0.length : Int) := of_decide_eq_true (by first | (with_reducible assumption) | assumption)
       obtain ⟨ad242, e242, hx242_0, hx242_1, hx242_2⟩ := at_T51 HR0.out x5_1 p242 q242
       cases e242
       replace hx242_0 := (HB.out.cell (World.block_lt_of_cell? w _ hx242_0)).trans hx242_0
       replace hx242_1 := (HB.out.cell (World.block_lt_of_cell? w _ hx242_1)).trans hx242_1
       replace hx242_2 := (HB.out.cell (World.block_lt_of_cell? w _ hx242_2)).trans hx242_2
       replace p242 := eq_true p242
       replace q242 := eq_true q242
       go_wp2_with (first | ((with_reducible refine gate_callee (f := 26) rfl ?_); refine goesL_ (some 22) rfl rfl Tryd.func26 (by kernel_rfl) rfl #[.agg #[.int .i64 ((rd_T51 l0 x5_1).f0), .int .u64 ((rd_T51 l0 x5_1).f1), .string ((rd_T51 l0 x5_1).f2)]] rfl am ?_; (with_reducible refine (carillonref01_one.calls k1 ((rd_T51 l0 x5_1).f0) ((rd_T51 l0 x5_1).f1) ((rd_T51 l0 x5_1).f2) t243 t244 _ A5.out).mono ?_); rintro e w9 ⟨rfl, hb⟩; refine ⟨_, rfl, ?_⟩; have n0_ := Aside0.mk (below_step bw hb); clear HB; have HB := n0_; clear n0_; (try clear hb); (try clear hb2); (try clear hk); (try clear hi)))
       go_ret2
       exact ⟨er, bw⟩
     ·rw [if_neg c4] at H
      exact absurd H (by simp)
    ·rw [if_neg c3] at H
     have c3b0 : decide (x5_1 < (l0.length : Int)) = false := decide_eq_false c3
     clear c3
     simp only [Option.some.injEq, Prod.mk.injEq] at H
     obtain ⟨rfl, rfl⟩ := H
     go_wp2
     go_ret2
     exact ⟨er, bw⟩

/-! ### carillonref10_Encode: function 8 -/
def carillonref10_Encode.f (k : Nat) (a0_0 : Int) (a0_1 : Int) (a0_2 : Int) (a0_3 : Int) (a0_4 : ByteArray) : Option (ByteArray × Bool) := (carillonref10_RightAcceptor.f a0_0 a0_1 a0_2 a0_3 a0_4).bind fun t246 => (if t246 = true then ((carillonref01_Encode.f k (([(⟨3, IntKind.u64.wrap (a0_0), (⟨#[]⟩ : ByteArray)⟩ : S51), (⟨1, IntKind.u64.wrap (a0_1), (⟨#[]⟩ : ByteArray)⟩ : S51), (⟨3, IntKind.u64.wrap (a0_2), (⟨#[]⟩ : ByteArray)⟩ : S51), (⟨1, IntKind.u64.wrap (a0_3), (⟨#[]⟩ : ByteArray)⟩ : S51), (⟨4, 0, a0_4⟩ : S51)] : List (S51)))).bind fun bt250 => (some (bt250.1, true))) else (some ((⟨#[]⟩ : ByteArray), false)))
theorem carillonref10_Encode.mono : ∀ a0 a1 a2 a3 a4 k, LeO (carillonref10_Encode.f k a0 a1 a2 a3 a4) (carillonref10_Encode.f (k + 1) a0 a1 a2 a3 a4) := by
 intro a0 a1 a2 a3 a4 k
 unfold carillonref10_Encode.f
 repeat' first
   | (with_reducible exact carillonref01_Encode.mono _ _)
   | (with_reducible exact LeO.refl _)
   | (with_reducible exact LeO.none _)
   | (with_reducible refine LeO.ite ?_ ?_)
   | (with_reducible refine LeO.bind ?_ (fun _ => ?_))
   | exact carillonref01_Encode.mono _ _
   | exact LeO.none _
   | refine LeO.ite ?_ ?_
   | refine LeO.bind ?_ (fun _ => ?_)
set_option maxHeartbeats 8000000 in
set_option maxRecDepth 100000 in
theorem carillonref10_Encode.calls (k : Nat) (a0_0 : Int) (a0_1 : Int) (a0_2 : Int) (a0_3 : Int) (a0_4 : ByteArray) (r1 : ByteArray) (r2 : Bool) (w : World) (h : carillonref10_Encode.f k a0_0 a0_1 a0_2 a0_3 a0_4 = some (r1, r2)) :
  Calls Tryd.prog 8 #[.agg #[.int .i64 a0_0, .int .i64 a0_1, .int .i64 a0_2, .int .i64 a0_3, .string a0_4]] w fun e w' => e = .returned (.tuple #[.string r1, .bool r2]) ∧ Below w.heap.size w w' := by
 have hu25 := Tryd.underlying25
 have hu51 := Tryd.underlying51
 have HB := Aside0.mk (Below.refl w.heap.size w)
 have H : ((carillonref10_RightAcceptor.f a0_0 a0_1 a0_2 a0_3 a0_4).bind fun t246 => (if t246 = true then ((carillonref01_Encode.f k (([(⟨3, IntKind.u64.wrap (a0_0), (⟨#[]⟩ : ByteArray)⟩ : S51), (⟨1, IntKind.u64.wrap (a0_1), (⟨#[]⟩ : ByteArray)⟩ : S51), (⟨3, IntKind.u64.wrap (a0_2), (⟨#[]⟩ : ByteArray)⟩ : S51), (⟨1, IntKind.u64.wrap (a0_3), (⟨#[]⟩ : ByteArray)⟩ : S51), (⟨4, 0, a0_4⟩ : S51)] : List (S51)))).bind fun bt250 => (some (bt250.1, true))) else (some ((⟨#[]⟩ : ByteArray), false)))) = some (r1, r2) := h
 clear h
 replace H := Option.bind_eq_some_iff.mp H
 obtain ⟨t246, A20, H⟩ := H
 replace H : (if t246 = true then ((carillonref01_Encode.f k (([(⟨3, IntKind.u64.wrap (a0_0), (⟨#[]⟩ : ByteArray)⟩ : S51), (⟨1, IntKind.u64.wrap (a0_1), (⟨#[]⟩ : ByteArray)⟩ : S51), (⟨3, IntKind.u64.wrap (a0_2), (⟨#[]⟩ : ByteArray)⟩ : S51), (⟨1, IntKind.u64.wrap (a0_3), (⟨#[]⟩ : ByteArray)⟩ : S51), (⟨4, 0, a0_4⟩ : S51)] : List (S51)))).bind fun bt250 => (some (bt250.1, true))) else (some ((⟨#[]⟩ : ByteArray), false))) = some (r1, r2) := H
 have A2 := Aside0.mk A20
 clear A20
 by_cases c3 : t246 = true
 ·subst c3
  have H1 : ((carillonref01_Encode.f k (([(⟨3, IntKind.u64.wrap (a0_0), (⟨#[]⟩ : ByteArray)⟩ : S51), (⟨1, IntKind.u64.wrap (a0_1), (⟨#[]⟩ : ByteArray)⟩ : S51), (⟨3, IntKind.u64.wrap (a0_2), (⟨#[]⟩ : ByteArray)⟩ : S51), (⟨1, IntKind.u64.wrap (a0_3), (⟨#[]⟩ : ByteArray)⟩ : S51), (⟨4, 0, a0_4⟩ : S51)] : List (S51)))).bind fun bt250 => (some (bt250.1, true))) = some (r1, r2) := by rw [if_pos rfl] at H; exact H
  clear H
  have H := H1
  clear H1
  obtain ⟨y247, hy247⟩ : ∃ y_ : List (S51), y_ = (([(⟨3, IntKind.u64.wrap (a0_0), (⟨#[]⟩ : ByteArray)⟩ : S51), (⟨1, IntKind.u64.wrap (a0_1), (⟨#[]⟩ : ByteArray)⟩ : S51), (⟨3, IntKind.u64.wrap (a0_2), (⟨#[]⟩ : ByteArray)⟩ : S51), (⟨1, IntKind.u64.wrap (a0_3), (⟨#[]⟩ : ByteArray)⟩ : S51), (⟨4, 0, a0_4⟩ : S51)] : List (S51))) := ⟨_, rfl⟩
  replace H : ((carillonref01_Encode.f k y247).bind fun bt250 => (some (bt250.1, true))) = some (r1, r2) := by first | (rw [hy247]; with_reducible exact H) | (have H2_ := (Option.bind_some _ _).symm.trans H; rw [hy247]; with_reducible exact H2_) | (have H2_ := (Option.bind_some _ _).symm.trans H; with_reducible exact H2_) | with_reducible exact H | (rw [hy247]; exact H) | exact H
  have Ny247 := Aside0.mk hy247
  clear hy247
  replace H := Option.bind_eq_some_iff.mp H
  obtain ⟨⟨t250, t251⟩, A40, H⟩ := H
  replace H : (some (t250, true)) = some (r1, r2) := H
  have A4 := Aside0.mk A40
  clear A40
  simp only [Option.some.injEq, Prod.mk.injEq] at H
  obtain ⟨rfl, rfl⟩ := H
  go_enter Tryd.func8, Tryd.ntmps8
  go_wp2_with (first | ((with_reducible refine gate_dst (N := 1) rfl ?_); refine box_event ?hg (N := 1) ?hd (cs := #[.int .i64 a0_0, .int .i64 a0_1, .int .i64 a0_2, .int .i64 a0_3, .string a0_4]) (t := 25) ?hr ?_; (case hd => rfl); (case hg => rfl); (case hr => first | (go_simp; done) | (go_simp; rfl)); intro gb245 hg w5 hbox hb; have n0_ := Aside0.mk (below_step bw hb); have n1_ := Aside0.mk (hbox); have n2_ := Aside0.mk ((g1 hg bw : w.heap.size ≤ gb245)); have n3_ := Aside0.mk ((g1 hg bw : w.heap.size ≤ gb245)); clear HB; have HB := n0_; have BK245 := n1_; have GW245 := n2_; have GE245 := n3_; clear n0_ n1_ n2_ n3_; clear hb hbox hg; have hcz6_0 := bc5_0 BK245.out; have hcz6_1 := bc5_1 BK245.out; have hcz6_2 := bc5_2 BK245.out; have hcz6_3 := bc5_3 BK245.out; have hcz6_4 := bc5_4 BK245.out; have hfz6_0 := blk_frozen BK245.out 0; have hfz6_1 := blk_frozen BK245.out 1; have hfz6_2 := blk_frozen BK245.out 2; have hfz6_3 := blk_frozen BK245.out 3; have hfz6_4 := blk_frozen BK245.out 4) | ((with_reducible refine gate_callee (f := 17) rfl ?_); refine goesL_ (some 8) rfl rfl Tryd.func17 (by kernel_rfl) rfl #[.agg #[.int .i64 a0_0, .int .i64 a0_1, .int .i64 a0_2, .int .i64 a0_3, .string a0_4]] rfl am ?_; (with_reducible refine (carillonref10_RightAcceptor.calls a0_0 a0_1 a0_2 a0_3 a0_4 true _ A2.out).mono ?_); rintro e w7 ⟨rfl, hb⟩; refine ⟨_, rfl, ?_⟩; have n0_ := Aside0.mk (nb BK245.out hb); have n1_ := Aside0.mk (below_step bw hb); clear BK245; clear HB; have BK245 := n0_; have HB := n1_; clear n0_ n1_; (try clear hb); (try clear hb2); (try clear hk); (try clear hi); have hcz8_0 := bc5_0 BK245.out; have hcz8_1 := bc5_1 BK245.out; have hcz8_2 := bc5_2 BK245.out; have hcz8_3 := bc5_3 BK245.out; have hcz8_4 := bc5_4 BK245.out; have hfz8_0 := blk_frozen BK245.out 0; have hfz8_1 := blk_frozen BK245.out 1; have hfz8_2 := blk_frozen BK245.out 2; have hfz8_3 := blk_frozen BK245.out 3; have hfz8_4 := blk_frozen BK245.out 4) | ((with_reducible refine gate_dst (N := 35) rfl ?_); refine Kd.R_lit k51 _ 51 ?hg (N := 35) ?hd (xs := ([(⟨3, IntKind.u64.wrap (a0_0), (⟨#[]⟩ : ByteArray)⟩ : S51), (⟨1, IntKind.u64.wrap (a0_1), (⟨#[]⟩ : ByteArray)⟩ : S51), (⟨3, IntKind.u64.wrap (a0_2), (⟨#[]⟩ : ByteArray)⟩ : S51), (⟨1, IntKind.u64.wrap (a0_3), (⟨#[]⟩ : ByteArray)⟩ : S51), (⟨4, 0, a0_4⟩ : S51)] : List (S51))) (inner := [.int .i64 3, .int .u64 (IntKind.u64.wrap (a0_0)), .string (⟨#[]⟩ : ByteArray), .int .i64 1, .int .u64 (IntKind.u64.wrap (a0_1)), .string (⟨#[]⟩ : ByteArray), .int .i64 3, .int .u64 (IntKind.u64.wrap (a0_2)), .string (⟨#[]⟩ : ByteArray), .int .i64 1, .int .u64 (IntKind.u64.wrap (a0_3)), .string (⟨#[]⟩ : ByteArray), .int .i64 4, .int .u64 0, .string a0_4]) (ok := fun _ => True) (okp := fun _ => True) ?hr ?hp (fun _ hk => hk) trivial (Below.refl _ _) (Nat.le_refl _) (by simp) ?_; (case hd => rfl); (case hg => rfl); (case hr => first | (go_simp; done) | (go_simp; rfl)); (case hp => exact (Reps.c3 (show Kd.M k51 _ _ _ (⟨3, IntKind.u64.wrap (a0_0), (⟨#[]⟩ : ByteArray)⟩ : S51) [.int .i64 3, .int .u64 (IntKind.u64.wrap (a0_0)), .string (⟨#[]⟩ : ByteArray)] from (k51_mkM _ _ _ (⟨3, IntKind.u64.wrap (a0_0), (⟨#[]⟩ : ByteArray)⟩ : S51) )) (Reps.c3 (show Kd.M k51 _ _ _ (⟨1, IntKind.u64.wrap (a0_1), (⟨#[]⟩ : ByteArray)⟩ : S51) [.int .i64 1, .int .u64 (IntKind.u64.wrap (a0_1)), .string (⟨#[]⟩ : ByteArray)] from (k51_mkM _ _ _ (⟨1, IntKind.u64.wrap (a0_1), (⟨#[]⟩ : ByteArray)⟩ : S51) )) (Reps.c3 (show Kd.M k51 _ _ _ (⟨3, IntKind.u64.wrap (a0_2), (⟨#[]⟩ : ByteArray)⟩ : S51) [.int .i64 3, .int .u64 (IntKind.u64.wrap (a0_2)), .string (⟨#[]⟩ : ByteArray)] from (k51_mkM _ _ _ (⟨3, IntKind.u64.wrap (a0_2), (⟨#[]⟩ : ByteArray)⟩ : S51) )) (Reps.c3 (show Kd.M k51 _ _ _ (⟨1, IntKind.u64.wrap (a0_3), (⟨#[]⟩ : ByteArray)⟩ : S51) [.int .i64 1, .int .u64 (IntKind.u64.wrap (a0_3)), .string (⟨#[]⟩ : ByteArray)] from (k51_mkM _ _ _ (⟨1, IntKind.u64.wrap (a0_3), (⟨#[]⟩ : ByteArray)⟩ : S51) )) (Reps.c3 (show Kd.M k51 _ _ _ (⟨4, 0, a0_4⟩ : S51) [.int .i64 4, .int .u64 0, .string a0_4] from (k51_mkM _ _ _ (⟨4, 0, a0_4⟩ : S51) )) (Reps.none _ _))))))); intro v248 w9 ho10 hb hg_ hnew_; clear hg_ hnew_; (first | rw [← Ny247.out] at ho10 | (simp only [Int.reduceToNat] at ho10; rw [← Ny247.out] at ho10)); have n0_ := Aside0.mk (Kd.R_lower ho10 (below_size bw)); have n1_ := Aside0.mk (nb BK245.out hb); have n2_ := Aside0.mk (below_step bw hb); clear BK245; clear HB; have HO249 := n0_; have BK245 := n1_; have HB := n2_; clear n0_ n1_ n2_; clear hb ho10; obtain ⟨Ao11, co11, eo11⟩ := Kd.R_slice HO249.out; subst eo11) | ((with_reducible refine gate_callee (f := 18) rfl ?_); refine goesL_ (some 36) rfl rfl Tryd.func18 (by kernel_rfl) rfl #[.slice Ao11 y247.length co11] rfl am ?_; (with_reducible refine (carillonref01_Encode.calls k _ _ y247 t250 t251 _ ?side1 ?side2 A4.out).mono ?_); (case side1 => repeat (first | exact (Kd.R_reads' HO249.out).2.2 | (with_reducible refine Kd.C_alloc ?_ _) | (with_reducible refine Kd.C_drewN ?_ _) | (with_reducible refine Kd.C_drew ?_))); (case side2 => exact (Kd.R_reads' HO249.out).2.1); rintro e w12 ⟨rfl, hb⟩; refine ⟨_, rfl, ?_⟩; have n0_ := Aside0.mk (Kd.R_below (by (with_reducible repeat (first | apply Kd.R_alloc | apply Kd.R_drewN | apply Kd.R_drew)); exact HO249.out) hb); have n1_ := Aside0.mk (nb BK245.out hb); have n2_ := Aside0.mk (below_step bw hb); clear HO249; clear BK245; clear HB; have HO249 := n0_; have BK245 := n1_; have HB := n2_; clear n0_ n1_ n2_; (try clear hb); (try clear hb2); (try clear hk); (try clear hi)))
  go_ret2
  exact ⟨er, bw⟩
 ·replace c3 := Bool.eq_false_iff.mpr c3
  subst c3
  have H1 : (some ((⟨#[]⟩ : ByteArray), false)) = some (r1, r2) := by rw [if_neg (show ¬ (false = true) by decide)] at H; exact H
  clear H
  have H := H1
  clear H1
  simp only [Option.some.injEq, Prod.mk.injEq] at H
  obtain ⟨rfl, rfl⟩ := H
  go_enter Tryd.func8, Tryd.ntmps8
  go_wp2_with (first | ((with_reducible refine gate_dst (N := 1) rfl ?_); refine box_event ?hg (N := 1) ?hd (cs := #[.int .i64 a0_0, .int .i64 a0_1, .int .i64 a0_2, .int .i64 a0_3, .string a0_4]) (t := 25) ?hr ?_; (case hd => rfl); (case hg => rfl); (case hr => first | (go_simp; done) | (go_simp; rfl)); intro gb245 hg w13 hbox hb; have n0_ := Aside0.mk (below_step bw hb); have n1_ := Aside0.mk (hbox); have n2_ := Aside0.mk ((g1 hg bw : w.heap.size ≤ gb245)); have n3_ := Aside0.mk ((g1 hg bw : w.heap.size ≤ gb245)); clear HB; have HB := n0_; have BK245 := n1_; have GW245 := n2_; have GE245 := n3_; clear n0_ n1_ n2_ n3_; clear hb hbox hg; have hcz14_0 := bc5_0 BK245.out; have hcz14_1 := bc5_1 BK245.out; have hcz14_2 := bc5_2 BK245.out; have hcz14_3 := bc5_3 BK245.out; have hcz14_4 := bc5_4 BK245.out; have hfz14_0 := blk_frozen BK245.out 0; have hfz14_1 := blk_frozen BK245.out 1; have hfz14_2 := blk_frozen BK245.out 2; have hfz14_3 := blk_frozen BK245.out 3; have hfz14_4 := blk_frozen BK245.out 4) | ((with_reducible refine gate_callee (f := 17) rfl ?_); refine goesL_ (some 8) rfl rfl Tryd.func17 (by kernel_rfl) rfl #[.agg #[.int .i64 a0_0, .int .i64 a0_1, .int .i64 a0_2, .int .i64 a0_3, .string a0_4]] rfl am ?_; (with_reducible refine (carillonref10_RightAcceptor.calls a0_0 a0_1 a0_2 a0_3 a0_4 false _ A2.out).mono ?_); rintro e w15 ⟨rfl, hb⟩; refine ⟨_, rfl, ?_⟩; have n0_ := Aside0.mk (nb BK245.out hb); have n1_ := Aside0.mk (below_step bw hb); clear BK245; clear HB; have BK245 := n0_; have HB := n1_; clear n0_ n1_; (try clear hb); (try clear hb2); (try clear hk); (try clear hi)))
  go_ret2
  exact ⟨er, bw⟩

-- NOT PRINTED: function 41 (bytealg_IndexByteString)

/-! ### stringslite_IndexByte: function 37 -/
def stringslite_IndexByte.f (a0 : ByteArray) (a1 : Int) : Option (Int) := some (Lib.indexByte a0.data.toList a1.toNat.toUInt8)
set_option maxHeartbeats 1000000 in
set_option maxRecDepth 100000 in
theorem stringslite_IndexByte.calls (a0 : ByteArray) (a1 : Int) (r : Int) (w : World) (h : stringslite_IndexByte.f a0 a1 = some r) :
  Calls Tryd.prog 37 #[.string a0, .int .u8 a1] w fun e w' => e = .returned (.int .i64 r) ∧ Drawn0 w w' := by
 obtain rfl := Option.some.inj h
 go_enter Tryd.func37, Tryd.ntmps37
 go_wp2
 rw [run_callFunc_extern Tryd.func41 (by kernel_rfl) (by kernel_rfl) (by kernel_rfl) (e := Extern.BytealgIndexByte.indexByte) (by kernel_rfl), Lib.run_indexByteString]
 simp only [Result.andThen]
 rw [Oper.upon_value]
 go_wp2
 go_ret
 exact ⟨rfl, Drawn0.refl _⟩

/-! ### strings_IndexByte: function 28 -/
def strings_IndexByte.f (a0 : ByteArray) (a1 : Int) : Option (Int) := (stringslite_IndexByte.f a0 a1).bind fun t252 => (some t252)
set_option maxHeartbeats 8000000 in
set_option maxRecDepth 100000 in
theorem strings_IndexByte.calls (a0 : ByteArray) (a1 : Int) (r : Int) (w : World) (h : strings_IndexByte.f a0 a1 = some r) :
  Calls Tryd.prog 28 #[.string a0, .int .u8 a1] w fun e w' => e = .returned (.int .i64 r) ∧ Drawn0 w w' := by
 have H : ((stringslite_IndexByte.f a0 a1).bind fun t252 => (some t252)) = some r := h
 clear h
 replace H := Option.bind_eq_some_iff.mp H
 obtain ⟨t252, A30, H⟩ := H
 replace H : (some t252) = some r := H
 have A3 := Aside0.mk A30
 clear A30
 obtain rfl := Option.some.inj H
 go_enter Tryd.func28, Tryd.ntmps28
 go_wp2_with (first | ((with_reducible refine gate_callee (f := 37) rfl ?_); refine goesL_ (some 7) rfl rfl Tryd.func37 (by kernel_rfl) rfl #[.string a0, .int .u8 a1] rfl am ?_; (with_reducible refine (stringslite_IndexByte.calls a0 a1 t252 _ A3.out).mono ?_); rintro e w' ⟨rfl, ⟨nd, rfl⟩⟩; refine ⟨_, rfl, ?_⟩))
 go_ret
 exact ⟨by first | rfl | (simp; done) | (simp [*]; done), by repeat (first | exact Drawn0.refl _ | apply Drawn0.step)⟩

-- NOT PRINTED: function 43 (bytealg_IndexString)

-- NOT PRINTED: function 44 (bytealg_Cutover)

-- NOT PRINTED: function 46 (bytealg_hashStr_string)

-- NOT PRINTED: function 45 (bytealg_IndexRabinKarp_string)

/-! ### stringslite_Index: function 42 -/
/-- At a text of one byte. -/
def oneByte (s : ByteArray) : Option UInt8 := match s.data.toList with | [c] => some c | _ => none
theorem oneByte_eq {s : ByteArray} {c : UInt8} (h : oneByte s = some c) : s = ⟨#[c]⟩ := by
 obtain ⟨⟨l⟩⟩ := s
 unfold oneByte at h
 match l, h with
 | [d], h => cases h; rfl
def stringslite_Index.f (a0 : ByteArray) (a1 : ByteArray) : Option (Int) := (oneByte a1).bind fun c => some (Lib.indexByte a0.data.toList c)
set_option maxHeartbeats 1000000 in
set_option maxRecDepth 100000 in
theorem stringslite_Index.calls (a0 : ByteArray) (a1 : ByteArray) (r : Int) (w : World) (h : stringslite_Index.f a0 a1 = some r) :
  Calls Tryd.prog 42 #[.string a0, .string a1] w fun e w' => e = .returned (.int .i64 r) ∧ Drawn0 w w' := by
 unfold stringslite_Index.f at h
 obtain ⟨c, hc, h⟩ := Option.bind_eq_some_iff.mp h
 obtain rfl := oneByte_eq hc
 obtain rfl := Option.some.inj h
 clear h hc
 go_enter Tryd.func42, Tryd.ntmps42
 go_wp2_with (go_at_call 37; refine (stringslite_IndexByte.calls _ _ _ _ rfl).mono ?_; rintro e w' ⟨rfl, ⟨n_, rfl⟩⟩)
 ·have h : ([c] == a0.toList) = true := by assumption
  go_ret
  refine ⟨?_, Drawn0.refl _⟩
  have e : a0.data.toList = [c] := by rw [← Lib.toList_data]; exact (beq_iff_eq.1 h).symm
  rw [e]
  simp [Lib.indexByte]
 ·go_ret
  exact ⟨rfl, ⟨_, rfl⟩⟩

/-! ### stringslite_Cut: function 40 -/
def stringslite_Cut.f (a0 : ByteArray) (a1 : ByteArray) : Option (ByteArray × ByteArray × Bool) := (stringslite_Index.f a0 a1).bind fun t253 => (if t253 ≥ 0 then (if 0 ≤ t253 then (if t253 ≤ (a0.size : Int) then (if 0 ≤ (wrap64 (t253 + (a1.size : Int))) then (if (wrap64 (t253 + (a1.size : Int))) ≤ (a0.size : Int) then (some (a0.extract 0 (t253 : Int).toNat, a0.extract ((wrap64 (t253 + (a1.size : Int))) : Int).toNat a0.size, true)) else (none)) else (none)) else (none)) else (none)) else (some (a0, (⟨#[]⟩ : ByteArray), false)))
set_option maxHeartbeats 8000000 in
set_option maxRecDepth 100000 in
theorem stringslite_Cut.calls (a0 : ByteArray) (a1 : ByteArray) (r1 : ByteArray) (r2 : ByteArray) (r3 : Bool) (w : World) (h : stringslite_Cut.f a0 a1 = some (r1, r2, r3)) :
  Calls Tryd.prog 40 #[.string a0, .string a1] w fun e w' => e = .returned (.tuple #[.string r1, .string r2, .bool r3]) ∧ Drawn0 w w' := by
 have H : ((stringslite_Index.f a0 a1).bind fun t253 => (if t253 ≥ 0 then (if 0 ≤ t253 then (if t253 ≤ (a0.size : Int) then (if 0 ≤ (wrap64 (t253 + (a1.size : Int))) then (if (wrap64 (t253 + (a1.size : Int))) ≤ (a0.size : Int) then (some (a0.extract 0 (t253 : Int).toNat, a0.extract ((wrap64 (t253 + (a1.size : Int))) : Int).toNat a0.size, true)) else (none)) else (none)) else (none)) else (none)) else (some (a0, (⟨#[]⟩ : ByteArray), false)))) = some (r1, r2, r3) := h
 clear h
 replace H := Option.bind_eq_some_iff.mp H
 obtain ⟨t253, A30, H⟩ := H
 replace H : (if t253 ≥ 0 then (if 0 ≤ t253 then (if t253 ≤ (a0.size : Int) then (if 0 ≤ (wrap64 (t253 + (a1.size : Int))) then (if (wrap64 (t253 + (a1.size : Int))) ≤ (a0.size : Int) then (some (a0.extract 0 (t253 : Int).toNat, a0.extract ((wrap64 (t253 + (a1.size : Int))) : Int).toNat a0.size, true)) else (none)) else (none)) else (none)) else (none)) else (some (a0, (⟨#[]⟩ : ByteArray), false))) = some (r1, r2, r3) := H
 have A3 := Aside0.mk A30
 clear A30
 by_cases c4 : t253 ≥ 0
 ·rw [if_pos c4] at H
  have c4b0 : decide (0 ≤ t253) = true := decide_eq_true c4
  clear c4
  by_cases c5 : 0 ≤ t253
  ·rw [if_pos c5] at H
   have c5b0 := eq_true c5
   have c5b1 : decide (0 ≤ t253) = true := decide_eq_true c5
   clear c5
   by_cases c6 : t253 ≤ (a0.size : Int)
   ·rw [if_pos c6] at H
    have c6b0 := eq_true c6
    have c6b1 : decide (t253 ≤ (a0.size : Int)) = true := decide_eq_true c6
    clear c6
    obtain ⟨ji7, hji7⟩ : ∃ j_ : Int, (wrap64 (t253 + (a1.size : Int))) = j_ := ⟨_, rfl⟩
    replace H : (if 0 ≤ (ji7) then (if (ji7) ≤ (a0.size : Int) then (some (a0.extract 0 (t253 : Int).toNat, a0.extract ((ji7) : Int).toNat a0.size, true)) else (none)) else (none)) = some (r1, r2, r3) := by first | (rw [hji7] at H; exact H) | (simp only [hji7] at H ⊢; exact H)
    (try rw [hji7] at A3)
    have hji7w : (IntKind.i64.wrap (t253 + (a1.size : Int))) = ji7 := (i64_w _).trans hji7
    by_cases c8 : 0 ≤ (ji7)
    ·rw [if_pos c8] at H
     have c8b0 := eq_true c8
     have c8b1 : decide (0 ≤ (ji7)) = true := decide_eq_true c8
     clear c8
     by_cases c9 : (ji7) ≤ (a0.size : Int)
     ·rw [if_pos c9] at H
      have c9b0 := eq_true c9
      have c9b1 : decide ((ji7) ≤ (a0.size : Int)) = true := decide_eq_true c9
      clear c9
      simp only [Option.some.injEq, Prod.mk.injEq] at H
      obtain ⟨rfl, rfl, rfl⟩ := H
      go_enter Tryd.func40, Tryd.ntmps40
      go_wp2_with (first | (go_at_call 42; (with_reducible refine (stringslite_Index.calls a0 a1 t253 _ A3.out).mono ?_); rintro e w' ⟨rfl, ⟨nd, rfl⟩⟩; (try first | exact ⟨rfl, _, World.drewN_drewN _ _ _⟩ | exact ⟨rfl, _, Eq.trans (World.drewN_drewN _ _ _) (congrArg (World.drewN _) (Nat.add_assoc _ _ _))⟩)))
      repeat (go_quiet (first | (go_at_call 42; (with_reducible refine (stringslite_Index.calls a0 a1 t253 _ A3.out).mono ?_); rintro e w' ⟨rfl, ⟨nd, rfl⟩⟩; (try first | exact ⟨rfl, _, World.drewN_drewN _ _ _⟩ | exact ⟨rfl, _, Eq.trans (World.drewN_drewN _ _ _) (congrArg (World.drewN _) (Nat.add_assoc _ _ _))⟩))); try go_wp2_with (first | (go_at_call 42; (with_reducible refine (stringslite_Index.calls a0 a1 t253 _ A3.out).mono ?_); rintro e w' ⟨rfl, ⟨nd, rfl⟩⟩; (try first | exact ⟨rfl, _, World.drewN_drewN _ _ _⟩ | exact ⟨rfl, _, Eq.trans (World.drewN_drewN _ _ _) (congrArg (World.drewN _) (Nat.add_assoc _ _ _))⟩))))
      go_ret3
      exact ⟨by first | rfl | (simp; done) | (simp only [← hji7] <;> (first | rfl | simp)) | (simp [*]; done), by repeat (first | exact Drawn0.refl _ | apply Drawn0.step)⟩
     ·rw [if_neg c9] at H
      exact absurd H (by simp)
    ·rw [if_neg c8] at H
     exact absurd H (by simp)
   ·rw [if_neg c6] at H
    exact absurd H (by simp)
  ·rw [if_neg c5] at H
   exact absurd H (by simp)
 ·rw [if_neg c4] at H
  have c4b0 : decide (0 ≤ t253) = false := decide_eq_false c4
  clear c4
  simp only [Option.some.injEq, Prod.mk.injEq] at H
  obtain ⟨rfl, rfl, rfl⟩ := H
  go_enter Tryd.func40, Tryd.ntmps40
  go_wp2_with (first | (go_at_call 42; (with_reducible refine (stringslite_Index.calls a0 a1 t253 _ A3.out).mono ?_); rintro e w' ⟨rfl, ⟨nd, rfl⟩⟩; (try first | exact ⟨rfl, _, World.drewN_drewN _ _ _⟩ | exact ⟨rfl, _, Eq.trans (World.drewN_drewN _ _ _) (congrArg (World.drewN _) (Nat.add_assoc _ _ _))⟩)))
  go_ret3
  exact ⟨by first | rfl | (simp; done) | (simp [*]; done), by repeat (first | exact Drawn0.refl _ | apply Drawn0.step)⟩

/-! ### strings_Cut: function 36 -/
def strings_Cut.f (a0 : ByteArray) (a1 : ByteArray) : Option (ByteArray × ByteArray × Bool) := (stringslite_Cut.f a0 a1).bind fun bt254 => (some (bt254.1, bt254.2.1, bt254.2.2))
set_option maxHeartbeats 8000000 in
set_option maxRecDepth 100000 in
theorem strings_Cut.calls (a0 : ByteArray) (a1 : ByteArray) (r1 : ByteArray) (r2 : ByteArray) (r3 : Bool) (w : World) (h : strings_Cut.f a0 a1 = some (r1, r2, r3)) :
  Calls Tryd.prog 36 #[.string a0, .string a1] w fun e w' => e = .returned (.tuple #[.string r1, .string r2, .bool r3]) ∧ Drawn0 w w' := by
 have H : ((stringslite_Cut.f a0 a1).bind fun bt254 => (some (bt254.1, bt254.2.1, bt254.2.2))) = some (r1, r2, r3) := h
 clear h
 replace H := Option.bind_eq_some_iff.mp H
 obtain ⟨⟨t254, t255, t256⟩, A30, H⟩ := H
 replace H : (some (t254, t255, t256)) = some (r1, r2, r3) := H
 have A3 := Aside0.mk A30
 clear A30
 simp only [Option.some.injEq, Prod.mk.injEq] at H
 obtain ⟨rfl, rfl, rfl⟩ := H
 go_enter Tryd.func36, Tryd.ntmps36
 go_wp2_with (first | ((with_reducible refine gate_callee (f := 40) rfl ?_); refine goesL_ (some 9) rfl rfl Tryd.func40 (by kernel_rfl) rfl #[.string a0, .string a1] rfl am ?_; (with_reducible refine (stringslite_Cut.calls a0 a1 t254 t255 t256 _ A3.out).mono ?_); rintro e w' ⟨rfl, ⟨nd, rfl⟩⟩; refine ⟨_, rfl, ?_⟩))
 go_ret3
 exact ⟨by first | rfl | (simp; done) | (simp [*]; done), by repeat (first | exact Drawn0.refl _ | apply Drawn0.step)⟩

end Go.Proofs.YtocgbfcjmgpleaaDoor.P
