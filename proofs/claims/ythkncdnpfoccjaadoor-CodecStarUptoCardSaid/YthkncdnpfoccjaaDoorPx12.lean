-- Printed by this session's program wip/xp.py (a turned copy of the kit's printer): functions, their contracts.
import Derived.Test.YthkncdnpfoccjaaDoorPx0
import Derived.Test.YthkncdnpfoccjaaDoorPx3
import Derived.Test.YthkncdnpfoccjaaDoorPx4
namespace Go.Proofs.YthkncdnpfoccjaaDoor.P
open Go.RowKit Go.Proofs.YthkncdnpfoccjaaDoorW.PrintWords Go.Proofs.YthkncdnpfoccjaaDoorW.PrintLast Go.Proofs.YthkncdnpfoccjaaDoorW.PrintMore
attribute [local go_sem] max2_int min2_int max_two min_two max_three min_three max_four min_four   -- for this text's walks alone
set_option linter.unusedVariables false
set_option linter.unusedSimpArgs false

/-! ### carillonlaw01_examples: function 10 -/
def carillonlaw01_examples.g (k : Nat)  : Option (Bool) := (codec_Encode.f k (([(⟨1, 1, (⟨#[]⟩ : ByteArray)⟩ : S32), (⟨2, 258, (⟨#[]⟩ : ByteArray)⟩ : S32), (⟨4, 0, (⟨#[97, 98]⟩ : ByteArray)⟩ : S32)] : List (S32)))).bind fun bt145 => ((codec_Decode.f k (⟨#[98, 119, 42, 116]⟩ : ByteArray) (⟨#[1, 0, 0, 1, 2]⟩ : ByteArray)).bind fun bt147 => ((codec_Decode.f k (⟨#[116]⟩ : ByteArray) (⟨#[0, 0, 0, 2, 97]⟩ : ByteArray)).bind fun bt151 => ((codec_Decode.f k (⟨#[98]⟩ : ByteArray) (⟨#[97, 98]⟩ : ByteArray)).bind fun bt155 => ((codec_Decode.f k (⟨#[120]⟩ : ByteArray) (⟨#[]⟩ : ByteArray)).bind fun bt159 => ((codec_Decode.f k (⟨#[98, 42]⟩ : ByteArray) (⟨#[97]⟩ : ByteArray)).bind fun bt163 => (if bt145.1.toList = ([1, 0, 0, 1, 2, 0, 0, 0, 2, 97, 98] : List UInt8) then (if bt145.2 = 0 then (if (bt147.1.length : Int) = 2 then (if bt147.2 = 0 then (if 1 < (bt147.1.length : Int) then (if ((rd_T32 bt147.1 1).f1) = 258 then (if bt151.2 = 2 then (if bt155.2 = 10 then (if bt159.2 = 1 then (some (bt163.2 == 1)) else (some false)) else (some false)) else (some false)) else (some false)) else (none)) else (some false)) else (some false)) else (some false)) else (some false)))))))
theorem carillonlaw01_examples.mono : ∀ k, LeO (carillonlaw01_examples.g k ) (carillonlaw01_examples.g (k + 1) ) := by
 intro  k
 unfold carillonlaw01_examples.g
 repeat' first
   | (with_reducible exact codec_Decode.mono _ _ _)
   | (with_reducible exact codec_Encode.mono _ _)
   | (with_reducible exact LeO.refl _)
   | (with_reducible exact LeO.none _)
   | (with_reducible refine LeO.ite ?_ ?_)
   | (with_reducible refine LeO.bind ?_ (fun _ => ?_))
   | exact codec_Decode.mono _ _ _
   | exact codec_Encode.mono _ _
   | exact LeO.none _
   | refine LeO.ite ?_ ?_
   | refine LeO.bind ?_ (fun _ => ?_)
set_option maxHeartbeats 8000000 in
set_option maxRecDepth 100000 in
theorem carillonlaw01_examples.calls0 (k : Nat)  (r : Bool) (w : World) (hr_ : Aside0 (r = true)) (HT_ : TabOk w) (h : carillonlaw01_examples.g k  = some r) :
  Calls Tryd.prog 10 #[] w fun e w' => e = .returned (.bool r) ∧ Below w.heap.size w w' := by
 have HT := Aside0.mk HT_
 clear HT_
 have hu32 := Tryd.underlying32
 have HB := Aside0.mk (Below.refl w.heap.size w)
 have H : ((codec_Encode.f k (([(⟨1, 1, (⟨#[]⟩ : ByteArray)⟩ : S32), (⟨2, 258, (⟨#[]⟩ : ByteArray)⟩ : S32), (⟨4, 0, (⟨#[97, 98]⟩ : ByteArray)⟩ : S32)] : List (S32)))).bind fun bt145 => ((codec_Decode.f k (⟨#[98, 119, 42, 116]⟩ : ByteArray) (⟨#[1, 0, 0, 1, 2]⟩ : ByteArray)).bind fun bt147 => ((codec_Decode.f k (⟨#[116]⟩ : ByteArray) (⟨#[0, 0, 0, 2, 97]⟩ : ByteArray)).bind fun bt151 => ((codec_Decode.f k (⟨#[98]⟩ : ByteArray) (⟨#[97, 98]⟩ : ByteArray)).bind fun bt155 => ((codec_Decode.f k (⟨#[120]⟩ : ByteArray) (⟨#[]⟩ : ByteArray)).bind fun bt159 => ((codec_Decode.f k (⟨#[98, 42]⟩ : ByteArray) (⟨#[97]⟩ : ByteArray)).bind fun bt163 => (if bt145.1.toList = ([1, 0, 0, 1, 2, 0, 0, 0, 2, 97, 98] : List UInt8) then (if bt145.2 = 0 then (if (bt147.1.length : Int) = 2 then (if bt147.2 = 0 then (if 1 < (bt147.1.length : Int) then (if ((rd_T32 bt147.1 1).f1) = 258 then (if bt151.2 = 2 then (if bt155.2 = 10 then (if bt159.2 = 1 then (some (bt163.2 == 1)) else (some false)) else (some false)) else (some false)) else (some false)) else (none)) else (some false)) else (some false)) else (some false)) else (some false)))))))) = some r := h
 clear h
 obtain ⟨y142, hy142⟩ : ∃ y_ : List (S32), y_ = (([(⟨1, 1, (⟨#[]⟩ : ByteArray)⟩ : S32), (⟨2, 258, (⟨#[]⟩ : ByteArray)⟩ : S32), (⟨4, 0, (⟨#[97, 98]⟩ : ByteArray)⟩ : S32)] : List (S32))) := ⟨_, rfl⟩
 replace H : ((codec_Encode.f k y142).bind fun bt145 => ((codec_Decode.f k (⟨#[98, 119, 42, 116]⟩ : ByteArray) (⟨#[1, 0, 0, 1, 2]⟩ : ByteArray)).bind fun bt147 => ((codec_Decode.f k (⟨#[116]⟩ : ByteArray) (⟨#[0, 0, 0, 2, 97]⟩ : ByteArray)).bind fun bt151 => ((codec_Decode.f k (⟨#[98]⟩ : ByteArray) (⟨#[97, 98]⟩ : ByteArray)).bind fun bt155 => ((codec_Decode.f k (⟨#[120]⟩ : ByteArray) (⟨#[]⟩ : ByteArray)).bind fun bt159 => ((codec_Decode.f k (⟨#[98, 42]⟩ : ByteArray) (⟨#[97]⟩ : ByteArray)).bind fun bt163 => (if bt145.1.toList = ([1, 0, 0, 1, 2, 0, 0, 0, 2, 97, 98] : List UInt8) then (if bt145.2 = 0 then (if (bt147.1.length : Int) = 2 then (if bt147.2 = 0 then (if 1 < (bt147.1.length : Int) then (if ((rd_T32 bt147.1 1).f1) = 258 then (if bt151.2 = 2 then (if bt155.2 = 10 then (if bt159.2 = 1 then (some (bt163.2 == 1)) else (some false)) else (some false)) else (some false)) else (some false)) else (none)) else (some false)) else (some false)) else (some false)) else (some false)))))))) = some r := by first | (rw [hy142]; with_reducible exact H) | (have H2_ := (Option.bind_some _ _).symm.trans H; rw [hy142]; with_reducible exact H2_) | (have H2_ := (Option.bind_some _ _).symm.trans H; with_reducible exact H2_) | with_reducible exact H | (rw [hy142]; exact H) | exact H
 have Ny142 := Aside0.mk hy142
 clear hy142
 replace H := Option.bind_eq_some_iff.mp H
 obtain ⟨⟨t145, t146⟩, A10, H⟩ := H
 replace H : ((codec_Decode.f k (⟨#[98, 119, 42, 116]⟩ : ByteArray) (⟨#[1, 0, 0, 1, 2]⟩ : ByteArray)).bind fun bt147 => ((codec_Decode.f k (⟨#[116]⟩ : ByteArray) (⟨#[0, 0, 0, 2, 97]⟩ : ByteArray)).bind fun bt151 => ((codec_Decode.f k (⟨#[98]⟩ : ByteArray) (⟨#[97, 98]⟩ : ByteArray)).bind fun bt155 => ((codec_Decode.f k (⟨#[120]⟩ : ByteArray) (⟨#[]⟩ : ByteArray)).bind fun bt159 => ((codec_Decode.f k (⟨#[98, 42]⟩ : ByteArray) (⟨#[97]⟩ : ByteArray)).bind fun bt163 => (if t145.toList = ([1, 0, 0, 1, 2, 0, 0, 0, 2, 97, 98] : List UInt8) then (if t146 = 0 then (if (bt147.1.length : Int) = 2 then (if bt147.2 = 0 then (if 1 < (bt147.1.length : Int) then (if ((rd_T32 bt147.1 1).f1) = 258 then (if bt151.2 = 2 then (if bt155.2 = 10 then (if bt159.2 = 1 then (some (bt163.2 == 1)) else (some false)) else (some false)) else (some false)) else (some false)) else (none)) else (some false)) else (some false)) else (some false)) else (some false))))))) = some r := H
 have A1 := Aside0.mk A10
 clear A10
 replace H := Option.bind_eq_some_iff.mp H
 obtain ⟨⟨t147, t148⟩, A20, H⟩ := H
 replace H : ((codec_Decode.f k (⟨#[116]⟩ : ByteArray) (⟨#[0, 0, 0, 2, 97]⟩ : ByteArray)).bind fun bt151 => ((codec_Decode.f k (⟨#[98]⟩ : ByteArray) (⟨#[97, 98]⟩ : ByteArray)).bind fun bt155 => ((codec_Decode.f k (⟨#[120]⟩ : ByteArray) (⟨#[]⟩ : ByteArray)).bind fun bt159 => ((codec_Decode.f k (⟨#[98, 42]⟩ : ByteArray) (⟨#[97]⟩ : ByteArray)).bind fun bt163 => (if t145.toList = ([1, 0, 0, 1, 2, 0, 0, 0, 2, 97, 98] : List UInt8) then (if t146 = 0 then (if (t147.length : Int) = 2 then (if t148 = 0 then (if 1 < (t147.length : Int) then (if ((rd_T32 t147 1).f1) = 258 then (if bt151.2 = 2 then (if bt155.2 = 10 then (if bt159.2 = 1 then (some (bt163.2 == 1)) else (some false)) else (some false)) else (some false)) else (some false)) else (none)) else (some false)) else (some false)) else (some false)) else (some false)))))) = some r := H
 have A2 := Aside0.mk A20
 clear A20
 replace H := Option.bind_eq_some_iff.mp H
 obtain ⟨⟨t151, t152⟩, A30, H⟩ := H
 replace H : ((codec_Decode.f k (⟨#[98]⟩ : ByteArray) (⟨#[97, 98]⟩ : ByteArray)).bind fun bt155 => ((codec_Decode.f k (⟨#[120]⟩ : ByteArray) (⟨#[]⟩ : ByteArray)).bind fun bt159 => ((codec_Decode.f k (⟨#[98, 42]⟩ : ByteArray) (⟨#[97]⟩ : ByteArray)).bind fun bt163 => (if t145.toList = ([1, 0, 0, 1, 2, 0, 0, 0, 2, 97, 98] : List UInt8) then (if t146 = 0 then (if (t147.length : Int) = 2 then (if t148 = 0 then (if 1 < (t147.length : Int) then (if ((rd_T32 t147 1).f1) = 258 then (if t152 = 2 then (if bt155.2 = 10 then (if bt159.2 = 1 then (some (bt163.2 == 1)) else (some false)) else (some false)) else (some false)) else (some false)) else (none)) else (some false)) else (some false)) else (some false)) else (some false))))) = some r := H
 have A3 := Aside0.mk A30
 clear A30
 replace H := Option.bind_eq_some_iff.mp H
 obtain ⟨⟨t155, t156⟩, A40, H⟩ := H
 replace H : ((codec_Decode.f k (⟨#[120]⟩ : ByteArray) (⟨#[]⟩ : ByteArray)).bind fun bt159 => ((codec_Decode.f k (⟨#[98, 42]⟩ : ByteArray) (⟨#[97]⟩ : ByteArray)).bind fun bt163 => (if t145.toList = ([1, 0, 0, 1, 2, 0, 0, 0, 2, 97, 98] : List UInt8) then (if t146 = 0 then (if (t147.length : Int) = 2 then (if t148 = 0 then (if 1 < (t147.length : Int) then (if ((rd_T32 t147 1).f1) = 258 then (if t152 = 2 then (if t156 = 10 then (if bt159.2 = 1 then (some (bt163.2 == 1)) else (some false)) else (some false)) else (some false)) else (some false)) else (none)) else (some false)) else (some false)) else (some false)) else (some false)))) = some r := H
 have A4 := Aside0.mk A40
 clear A40
 replace H := Option.bind_eq_some_iff.mp H
 obtain ⟨⟨t159, t160⟩, A50, H⟩ := H
 replace H : ((codec_Decode.f k (⟨#[98, 42]⟩ : ByteArray) (⟨#[97]⟩ : ByteArray)).bind fun bt163 => (if t145.toList = ([1, 0, 0, 1, 2, 0, 0, 0, 2, 97, 98] : List UInt8) then (if t146 = 0 then (if (t147.length : Int) = 2 then (if t148 = 0 then (if 1 < (t147.length : Int) then (if ((rd_T32 t147 1).f1) = 258 then (if t152 = 2 then (if t156 = 10 then (if t160 = 1 then (some (bt163.2 == 1)) else (some false)) else (some false)) else (some false)) else (some false)) else (none)) else (some false)) else (some false)) else (some false)) else (some false))) = some r := H
 have A5 := Aside0.mk A50
 clear A50
 replace H := Option.bind_eq_some_iff.mp H
 obtain ⟨⟨t163, t164⟩, A60, H⟩ := H
 replace H : (if t145.toList = ([1, 0, 0, 1, 2, 0, 0, 0, 2, 97, 98] : List UInt8) then (if t146 = 0 then (if (t147.length : Int) = 2 then (if t148 = 0 then (if 1 < (t147.length : Int) then (if ((rd_T32 t147 1).f1) = 258 then (if t152 = 2 then (if t156 = 10 then (if t160 = 1 then (some (t164 == 1)) else (some false)) else (some false)) else (some false)) else (some false)) else (none)) else (some false)) else (some false)) else (some false)) else (some false)) = some r := H
 have A6 := Aside0.mk A60
 clear A60
 by_cases c7 : t145.toList = ([1, 0, 0, 1, 2, 0, 0, 0, 2, 97, 98] : List UInt8); rotate_left
 ·rw [if_neg c7] at H
  have c7b0 : (t145.toList == ([1, 0, 0, 1, 2, 0, 0, 0, 2, 97, 98] : List UInt8)) = false := beq_eq_false_iff_ne.mpr c7
  have c7b1 : (t145.toList != ([1, 0, 0, 1, 2, 0, 0, 0, 2, 97, 98] : List UInt8)) = true := bne_iff_ne.mpr c7
  exact absurd ((Option.some.inj H).trans hr_.out) (by decide)
 rw [if_pos c7] at H
 have c7b0 : (t145.toList == ([1, 0, 0, 1, 2, 0, 0, 0, 2, 97, 98] : List UInt8)) = true := beq_iff_eq.mpr c7
 have c7b1 : (t145.toList != ([1, 0, 0, 1, 2, 0, 0, 0, 2, 97, 98] : List UInt8)) = false := bne_eq_false_iff_eq.mpr c7
 clear c7
 by_cases c8 : t146 = 0; rotate_left
 ·rw [if_neg c8] at H
  have c8b0 : (t146 == 0) = false := beq_eq_false_iff_ne.mpr c8
  have c8b1 : (t146 != 0) = true := bne_iff_ne.mpr c8
  exact absurd ((Option.some.inj H).trans hr_.out) (by decide)
 rw [if_pos c8] at H
 have c8b0 : (t146 == 0) = true := beq_iff_eq.mpr c8
 have c8b1 : (t146 != 0) = false := bne_eq_false_iff_eq.mpr c8
 clear c8
 by_cases c9 : (t147.length : Int) = 2; rotate_left
 ·rw [if_neg c9] at H
  have c9b0 : ((t147.length : Int) == 2) = false := beq_eq_false_iff_ne.mpr c9
  have c9b1 : ((t147.length : Int) != 2) = true := bne_iff_ne.mpr c9
  exact absurd ((Option.some.inj H).trans hr_.out) (by decide)
 rw [if_pos c9] at H
 have c9b0 : ((t147.length : Int) == 2) = true := beq_iff_eq.mpr c9
 have c9b1 : ((t147.length : Int) != 2) = false := bne_eq_false_iff_eq.mpr c9
 clear c9
 by_cases c10 : t148 = 0; rotate_left
 ·rw [if_neg c10] at H
  have c10b0 : (t148 == 0) = false := beq_eq_false_iff_ne.mpr c10
  have c10b1 : (t148 != 0) = true := bne_iff_ne.mpr c10
  exact absurd ((Option.some.inj H).trans hr_.out) (by decide)
 rw [if_pos c10] at H
 have c10b0 : (t148 == 0) = true := beq_iff_eq.mpr c10
 have c10b1 : (t148 != 0) = false := bne_eq_false_iff_eq.mpr c10
 clear c10
 by_cases c11 : 1 < (t147.length : Int); rotate_left
 ·rw [if_neg c11] at H
  exact absurd H (by simp)
 rw [if_pos c11] at H
 have c11b0 : decide (1 < (t147.length : Int)) = true := decide_eq_true c11
 have c11b1 : decide (1 < t147.length) = true := decide_eq_true (by omega)
 clear c11
 by_cases c12 : ((rd_T32 t147 1).f1) = 258; rotate_left
 ·rw [if_neg c12] at H
  have c12b0 : (((rd_T32 t147 1).f1) == 258) = false := beq_eq_false_iff_ne.mpr c12
  have c12b1 : (((rd_T32 t147 1).f1) != 258) = true := bne_iff_ne.mpr c12
  exact absurd ((Option.some.inj H).trans hr_.out) (by decide)
 rw [if_pos c12] at H
 have c12b0 : (((rd_T32 t147 1).f1) == 258) = true := beq_iff_eq.mpr c12
 have c12b1 : (((rd_T32 t147 1).f1) != 258) = false := bne_eq_false_iff_eq.mpr c12
 clear c12
 by_cases c13 : t152 = 2; rotate_left
 ·rw [if_neg c13] at H
  have c13b0 : (t152 == 2) = false := beq_eq_false_iff_ne.mpr c13
  have c13b1 : (t152 != 2) = true := bne_iff_ne.mpr c13
  exact absurd ((Option.some.inj H).trans hr_.out) (by decide)
 rw [if_pos c13] at H
 have c13b0 : (t152 == 2) = true := beq_iff_eq.mpr c13
 have c13b1 : (t152 != 2) = false := bne_eq_false_iff_eq.mpr c13
 clear c13
 by_cases c14 : t156 = 10; rotate_left
 ·rw [if_neg c14] at H
  have c14b0 : (t156 == 10) = false := beq_eq_false_iff_ne.mpr c14
  have c14b1 : (t156 != 10) = true := bne_iff_ne.mpr c14
  exact absurd ((Option.some.inj H).trans hr_.out) (by decide)
 rw [if_pos c14] at H
 have c14b0 : (t156 == 10) = true := beq_iff_eq.mpr c14
 have c14b1 : (t156 != 10) = false := bne_eq_false_iff_eq.mpr c14
 clear c14
 by_cases c15 : t160 = 1; rotate_left
 ·rw [if_neg c15] at H
  have c15b0 : (t160 == 1) = false := beq_eq_false_iff_ne.mpr c15
  have c15b1 : (t160 != 1) = true := bne_iff_ne.mpr c15
  exact absurd ((Option.some.inj H).trans hr_.out) (by decide)
 rw [if_pos c15] at H
 have c15b0 : (t160 == 1) = true := beq_iff_eq.mpr c15
 have c15b1 : (t160 != 1) = false := bne_eq_false_iff_eq.mpr c15
 clear c15
 obtain rfl := Option.some.inj H
 go_enter Tryd.func10, Tryd.ntmps10
 go_wp2_with (first | ((with_reducible refine gate_dst (N := 17) rfl ?_); (try (refine gate_guard (by rfl) ?_; dsimp only)); refine Kd.R_lit k32 _ 32 ?hg (N := 17) ?hd (xs := ([(⟨1, 1, (⟨#[]⟩ : ByteArray)⟩ : S32), (⟨2, 258, (⟨#[]⟩ : ByteArray)⟩ : S32), (⟨4, 0, (⟨#[97, 98]⟩ : ByteArray)⟩ : S32)] : List (S32))) (inner := [.int .i64 1, .int .u64 1, .string (⟨#[]⟩ : ByteArray), .int .i64 2, .int .u64 258, .string (⟨#[]⟩ : ByteArray), .int .i64 4, .int .u64 0, .string (⟨#[97, 98]⟩ : ByteArray)]) (ok := fun _ => True) (okp := fun _ => True) ?hr ?hp (fun _ hk => hk) trivial (Below.refl _ _) (Nat.le_refl _) (by simp) ?_; (case hd => rfl); (case hg => rfl); (case hr => first | (go_simp; done) | (go_simp; rfl)); (case hp => exact (Reps.c3 (show Kd.M k32 _ _ _ (⟨1, 1, (⟨#[]⟩ : ByteArray)⟩ : S32) [.int .i64 1, .int .u64 1, .string (⟨#[]⟩ : ByteArray)] from (k32_mkM _ _ _ (⟨1, 1, (⟨#[]⟩ : ByteArray)⟩ : S32) )) (Reps.c3 (show Kd.M k32 _ _ _ (⟨2, 258, (⟨#[]⟩ : ByteArray)⟩ : S32) [.int .i64 2, .int .u64 258, .string (⟨#[]⟩ : ByteArray)] from (k32_mkM _ _ _ (⟨2, 258, (⟨#[]⟩ : ByteArray)⟩ : S32) )) (Reps.c3 (show Kd.M k32 _ _ _ (⟨4, 0, (⟨#[97, 98]⟩ : ByteArray)⟩ : S32) [.int .i64 4, .int .u64 0, .string (⟨#[97, 98]⟩ : ByteArray)] from (k32_mkM _ _ _ (⟨4, 0, (⟨#[97, 98]⟩ : ByteArray)⟩ : S32) )) (Reps.none _ _))))); intro v143 w16 ho17 hb hg_ hnew_; clear hg_ hnew_; (first | rw [← Ny142.out] at ho17 | (simp only [Int.reduceToNat] at ho17; rw [← Ny142.out] at ho17)); have n0_ := Aside0.mk (Kd.R_lower ho17 (below_size bw)); have n1_ := Aside0.mk (below_step bw hb); clear HB; have aa := n0_; have HB := n1_; clear n0_ n1_; clear hb ho17; obtain ⟨Ao18, co18, eo18⟩ := Kd.R_slice aa.out; subst eo18) | ((with_reducible refine gate_callee (f := 14) rfl ?_); refine goesL_ (some 18) rfl rfl Tryd.func14 (by kernel_rfl) rfl #[.slice Ao18 y142.length co18] rfl am ?_; (with_reducible refine (codec_Encode.calls k _ _ y142 t145 t146 _ ?side1 ?side2 tbk A1.out).mono ?_); (case side1 => repeat (first | exact (Kd.R_reads' aa.out).2.2 | (with_reducible refine Kd.C_alloc ?_ _) | (with_reducible refine Kd.C_drewN ?_ _) | (with_reducible refine Kd.C_drew ?_))); (case side2 => exact (Kd.R_reads' aa.out).2.1); rintro e w19 ⟨rfl, hb⟩; refine ⟨_, rfl, ?_⟩; have n0_ := Aside0.mk (Kd.R_below (by (with_reducible repeat (first | apply Kd.R_alloc | apply Kd.R_drewN | apply Kd.R_drew)); exact aa.out) hb); have n1_ := Aside0.mk (below_step bw hb); clear aa; clear HB; have aa := n0_; have HB := n1_; clear n0_ n1_; (try clear hb)) | ((with_reducible refine gate_callee (f := 12) rfl ?_); refine goesL_ (some 22) rfl rfl Tryd.func12 (by kernel_rfl) rfl #[.string (⟨#[98, 119, 42, 116]⟩ : ByteArray), .string (⟨#[1, 0, 0, 1, 2]⟩ : ByteArray)] rfl am ?_; (with_reducible refine (codec_Decode.calls k (⟨#[98, 119, 42, 116]⟩ : ByteArray) (⟨#[1, 0, 0, 1, 2]⟩ : ByteArray) t147 t148 _ tbk A2.out).mono ?_); rintro e w20 ⟨v149, rfl, ho0, hb⟩; refine ⟨_, rfl, ?_⟩; have n0_ := Aside0.mk (Kd.R_elder' (by (with_reducible repeat (first | apply Kd.R_alloc | apply Kd.R_drewN | apply Kd.R_drew)); exact aa.out) (Kd.R_base ho0) hb); have n1_ := Aside0.mk (Kd.R_lower (Kd.R_new' ho0 (Kd.R_lt (by (with_reducible repeat (first | apply Kd.R_alloc | apply Kd.R_drewN | apply Kd.R_drew)); exact aa.out))) (below_size bw)); have n2_ := Aside0.mk (below_step bw hb); clear aa; clear HB; have aa := n0_; have ab := n1_; have HB := n2_; clear n0_ n1_ n2_; (try clear hb); (try clear ho0)) | ((with_reducible refine gate_callee (f := 12) rfl ?_); refine goesL_ (some 26) rfl rfl Tryd.func12 (by kernel_rfl) rfl #[.string (⟨#[116]⟩ : ByteArray), .string (⟨#[0, 0, 0, 2, 97]⟩ : ByteArray)] rfl am ?_; (with_reducible refine (codec_Decode.calls k (⟨#[116]⟩ : ByteArray) (⟨#[0, 0, 0, 2, 97]⟩ : ByteArray) t151 t152 _ tbk A3.out).mono ?_); rintro e w21 ⟨v153, rfl, ho0, hb⟩; refine ⟨_, rfl, ?_⟩; have n0_ := Aside0.mk (Kd.R_elder' (by (with_reducible repeat (first | apply Kd.R_alloc | apply Kd.R_drewN | apply Kd.R_drew)); exact aa.out) (Kd.R_base ho0) hb); have n1_ := Aside0.mk (Kd.R_elder' (by (with_reducible repeat (first | apply Kd.R_alloc | apply Kd.R_drewN | apply Kd.R_drew)); exact ab.out) (Kd.R_base ho0) hb); have n2_ := Aside0.mk (Kd.R_lower (Kd.R_new' (Kd.R_new' ho0 (Kd.R_lt (by (with_reducible repeat (first | apply Kd.R_alloc | apply Kd.R_drewN | apply Kd.R_drew)); exact aa.out))) (Kd.R_lt (by (with_reducible repeat (first | apply Kd.R_alloc | apply Kd.R_drewN | apply Kd.R_drew)); exact ab.out))) (below_size bw)); have n3_ := Aside0.mk (below_step bw hb); clear aa; clear ab; clear HB; have aa := n0_; have ab := n1_; have ac := n2_; have HB := n3_; clear n0_ n1_ n2_ n3_; (try clear hb); (try clear ho0)) | ((with_reducible refine gate_callee (f := 12) rfl ?_); refine goesL_ (some 30) rfl rfl Tryd.func12 (by kernel_rfl) rfl #[.string (⟨#[98]⟩ : ByteArray), .string (⟨#[97, 98]⟩ : ByteArray)] rfl am ?_; (with_reducible refine (codec_Decode.calls k (⟨#[98]⟩ : ByteArray) (⟨#[97, 98]⟩ : ByteArray) t155 t156 _ tbk A4.out).mono ?_); rintro e w22 ⟨v157, rfl, ho0, hb⟩; refine ⟨_, rfl, ?_⟩; have n0_ := Aside0.mk (Kd.R_elder' (by (with_reducible repeat (first | apply Kd.R_alloc | apply Kd.R_drewN | apply Kd.R_drew)); exact aa.out) (Kd.R_base ho0) hb); have n1_ := Aside0.mk (Kd.R_elder' (by (with_reducible repeat (first | apply Kd.R_alloc | apply Kd.R_drewN | apply Kd.R_drew)); exact ab.out) (Kd.R_base ho0) hb); have n2_ := Aside0.mk (Kd.R_elder' (by (with_reducible repeat (first | apply Kd.R_alloc | apply Kd.R_drewN | apply Kd.R_drew)); exact ac.out) (Kd.R_base ho0) hb); have n3_ := Aside0.mk (Kd.R_lower (Kd.R_new' (Kd.R_new' (Kd.R_new' ho0 (Kd.R_lt (by (with_reducible repeat (first | apply Kd.R_alloc | apply Kd.R_drewN | apply Kd.R_drew)); exact aa.out))) (Kd.R_lt (by (with_reducible repeat (first | apply Kd.R_alloc | apply Kd.R_drewN | apply Kd.R_drew)); exact ab.out))) (Kd.R_lt (by (with_reducible repeat (first | apply Kd.R_alloc | apply Kd.R_drewN | apply Kd.R_drew)); exact ac.out))) (below_size bw)); have n4_ := Aside0.mk (below_step bw hb); clear aa; clear ab; clear ac; clear HB; have aa := n0_; have ab := n1_; have ac := n2_; have ad := n3_; have HB := n4_; clear n0_ n1_ n2_ n3_ n4_; (try clear hb); (try clear ho0)) | ((with_reducible refine gate_callee (f := 12) rfl ?_); refine goesL_ (some 34) rfl rfl Tryd.func12 (by kernel_rfl) rfl #[.string (⟨#[120]⟩ : ByteArray), .string (⟨#[]⟩ : ByteArray)] rfl am ?_; (with_reducible refine (codec_Decode.calls k (⟨#[120]⟩ : ByteArray) (⟨#[]⟩ : ByteArray) t159 t160 _ tbk A5.out).mono ?_); rintro e w23 ⟨v161, rfl, ho0, hb⟩; refine ⟨_, rfl, ?_⟩; have n0_ := Aside0.mk (Kd.R_elder' (by (with_reducible repeat (first | apply Kd.R_alloc | apply Kd.R_drewN | apply Kd.R_drew)); exact aa.out) (Kd.R_base ho0) hb); have n1_ := Aside0.mk (Kd.R_elder' (by (with_reducible repeat (first | apply Kd.R_alloc | apply Kd.R_drewN | apply Kd.R_drew)); exact ab.out) (Kd.R_base ho0) hb); have n2_ := Aside0.mk (Kd.R_elder' (by (with_reducible repeat (first | apply Kd.R_alloc | apply Kd.R_drewN | apply Kd.R_drew)); exact ac.out) (Kd.R_base ho0) hb); have n3_ := Aside0.mk (Kd.R_elder' (by (with_reducible repeat (first | apply Kd.R_alloc | apply Kd.R_drewN | apply Kd.R_drew)); exact ad.out) (Kd.R_base ho0) hb); have n4_ := Aside0.mk (Kd.R_lower (Kd.R_new' (Kd.R_new' (Kd.R_new' (Kd.R_new' ho0 (Kd.R_lt (by (with_reducible repeat (first | apply Kd.R_alloc | apply Kd.R_drewN | apply Kd.R_drew)); exact aa.out))) (Kd.R_lt (by (with_reducible repeat (first | apply Kd.R_alloc | apply Kd.R_drewN | apply Kd.R_drew)); exact ab.out))) (Kd.R_lt (by (with_reducible repeat (first | apply Kd.R_alloc | apply Kd.R_drewN | apply Kd.R_drew)); exact ac.out))) (Kd.R_lt (by (with_reducible repeat (first | apply Kd.R_alloc | apply Kd.R_drewN | apply Kd.R_drew)); exact ad.out))) (below_size bw)); have n5_ := Aside0.mk (below_step bw hb); clear aa; clear ab; clear ac; clear ad; clear HB; have aa := n0_; have ab := n1_; have ac := n2_; have ad := n3_; have ah := n4_; have HB := n5_; clear n0_ n1_ n2_ n3_ n4_ n5_; (try clear hb); (try clear ho0)) | ((with_reducible refine gate_callee (f := 12) rfl ?_); refine goesL_ (some 38) rfl rfl Tryd.func12 (by kernel_rfl) rfl #[.string (⟨#[98, 42]⟩ : ByteArray), .string (⟨#[97]⟩ : ByteArray)] rfl am ?_; (with_reducible refine (codec_Decode.calls k (⟨#[98, 42]⟩ : ByteArray) (⟨#[97]⟩ : ByteArray) t163 t164 _ tbk A6.out).mono ?_); rintro e w24 ⟨v165, rfl, ho0, hb⟩; refine ⟨_, rfl, ?_⟩; have n0_ := Aside0.mk (Kd.R_elder' (by (with_reducible repeat (first | apply Kd.R_alloc | apply Kd.R_drewN | apply Kd.R_drew)); exact aa.out) (Kd.R_base ho0) hb); have n1_ := Aside0.mk (Kd.R_elder' (by (with_reducible repeat (first | apply Kd.R_alloc | apply Kd.R_drewN | apply Kd.R_drew)); exact ab.out) (Kd.R_base ho0) hb); have n2_ := Aside0.mk (Kd.R_elder' (by (with_reducible repeat (first | apply Kd.R_alloc | apply Kd.R_drewN | apply Kd.R_drew)); exact ac.out) (Kd.R_base ho0) hb); have n3_ := Aside0.mk (Kd.R_elder' (by (with_reducible repeat (first | apply Kd.R_alloc | apply Kd.R_drewN | apply Kd.R_drew)); exact ad.out) (Kd.R_base ho0) hb); have n4_ := Aside0.mk (Kd.R_elder' (by (with_reducible repeat (first | apply Kd.R_alloc | apply Kd.R_drewN | apply Kd.R_drew)); exact ah.out) (Kd.R_base ho0) hb); have n5_ := Aside0.mk (Kd.R_lower (Kd.R_new' (Kd.R_new' (Kd.R_new' (Kd.R_new' (Kd.R_new' ho0 (Kd.R_lt (by (with_reducible repeat (first | apply Kd.R_alloc | apply Kd.R_drewN | apply Kd.R_drew)); exact aa.out))) (Kd.R_lt (by (with_reducible repeat (first | apply Kd.R_alloc | apply Kd.R_drewN | apply Kd.R_drew)); exact ab.out))) (Kd.R_lt (by (with_reducible repeat (first | apply Kd.R_alloc | apply Kd.R_drewN | apply Kd.R_drew)); exact ac.out))) (Kd.R_lt (by (with_reducible repeat (first | apply Kd.R_alloc | apply Kd.R_drewN | apply Kd.R_drew)); exact ad.out))) (Kd.R_lt (by (with_reducible repeat (first | apply Kd.R_alloc | apply Kd.R_drewN | apply Kd.R_drew)); exact ah.out))) (below_size bw)); have n6_ := Aside0.mk (below_step bw hb); clear aa; clear ab; clear ac; clear ad; clear ah; clear HB; have aa := n0_; have ab := n1_; have ac := n2_; have ad := n3_; have ah := n4_; have HO166 := n5_; have HB := n6_; clear n0_ n1_ n2_ n3_ n4_ n5_ n6_; (try clear hb); (try clear ho0); obtain ⟨Ao25, co25, eo25⟩ := Kd.R_slice ab.out; subst eo25; have p167 : 0 ≤ (1 : Int) := (by omega); have q167 : 1 < (t147.length : Int) := od; obtain ⟨ad167, e167, ae, af, ag⟩ := at_T32 (Kd.R_reads' ab.out).2.2 1 p167 q167; cases e167; (try simp only [show (1 : Int).toNat = 1 from rfl, Nat.reduceMul, Nat.reduceEqDiff, Go.Addr.add, ↓reduceIte] at ae); (try simp only [show (1 : Int).toNat = 1 from rfl, Nat.reduceMul, Nat.reduceEqDiff, Go.Addr.add, ↓reduceIte] at af); (try simp only [show (1 : Int).toNat = 1 from rfl, Nat.reduceMul, Nat.reduceEqDiff, Go.Addr.add, ↓reduceIte] at ag); have qi167 : (1 < t147.length) = True := eq_true (by omega); (try rw [show ((1 : Int)).toNat = 1 from rfl] at ae); (try rw [show 1 * 3 = 3 from rfl] at ae); (try rw [show ((1 : Int)).toNat = 1 from rfl] at af); (try rw [show 1 * 3 = 3 from rfl] at af); (try rw [show ((1 : Int)).toNat = 1 from rfl] at ag); (try rw [show 1 * 3 = 3 from rfl] at ag); replace p167 := eq_true p167; replace q167 := eq_true q167))
 go_ret
 exact ⟨er, bw⟩
theorem carillonlaw01_examples.g_true : carillonlaw01_examples.g 300 = some true := by kernel_rfl
def carillonlaw01_examples.f : Option (Bool) := some true
theorem carillonlaw01_examples.calls (r : Bool) (w : World) (HT_ : TabOk w) (h : carillonlaw01_examples.f = some r) :
  Calls Tryd.prog 10 #[] w fun e w' => e = .returned (.bool r) ∧ Below w.heap.size w w' := by
 obtain rfl := Option.some.inj h
 exact carillonlaw01_examples.calls0 _ true w ⟨rfl⟩ HT_ carillonlaw01_examples.g_true

end Go.Proofs.YthkncdnpfoccjaaDoor.P
