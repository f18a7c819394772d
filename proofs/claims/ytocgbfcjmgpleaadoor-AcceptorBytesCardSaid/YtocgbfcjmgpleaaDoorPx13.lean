-- Printed by this session's program wip/xp.py (a turned copy of the kit's printer): functions, their contracts.
import Derived.Test.YtocgbfcjmgpleaaDoorPx0
import Derived.Test.YtocgbfcjmgpleaaDoorPx6
import Derived.Test.YtocgbfcjmgpleaaDoorPx12
namespace Go.Proofs.YtocgbfcjmgpleaaDoor.P
open Go.RowKit Go.Proofs.YtocgbfcjmgpleaaDoorW.PrintWords Go.Proofs.YtocgbfcjmgpleaaDoorW.PrintLast Go.Proofs.YtocgbfcjmgpleaaDoorW.PrintMore
attribute [local go_sem] max2_int min2_int max_two min_two max_three min_three max_four min_four   -- for this text's walks alone
set_option linter.unusedVariables false
set_option linter.unusedSimpArgs false

/-! ### acceptor_Decode: function 9 -/
def acceptor_Decode.f (k : Nat) (a0 : ByteArray) : Option (Int × Int × Int × Int × ByteArray × Int) := (codec_Decode.f k (⟨#[108, 98, 108, 98, 116]⟩ : ByteArray) a0).bind fun bt276 => (if bt276.2 = 0 then (if 0 < (bt276.1.length : Int) then (if 2 < (bt276.1.length : Int) then (if (mx ((rd_T51 bt276.1 0).f1) ((rd_T51 bt276.1 2).f1)) > 9007199254740991 then (some (0, 0, 0, 0, (⟨#[]⟩ : ByteArray), 10)) else (if 1 < (bt276.1.length : Int) then (if 3 < (bt276.1.length : Int) then (if 4 < (bt276.1.length : Int) then ((acceptor_right.f (wrap64 ((rd_T51 bt276.1 0).f1)) (wrap64 ((rd_T51 bt276.1 1).f1)) (wrap64 ((rd_T51 bt276.1 2).f1)) (wrap64 ((rd_T51 bt276.1 3).f1)) ((rd_T51 bt276.1 4).f2)).bind fun t288 => (if t288 = true then (some (wrap64 ((rd_T51 bt276.1 0).f1), wrap64 ((rd_T51 bt276.1 1).f1), wrap64 ((rd_T51 bt276.1 2).f1), wrap64 ((rd_T51 bt276.1 3).f1), (rd_T51 bt276.1 4).f2, 0)) else (some (0, 0, 0, 0, (⟨#[]⟩ : ByteArray), 10)))) else (none)) else (none)) else (none))) else (none)) else (none)) else (some (0, 0, 0, 0, (⟨#[]⟩ : ByteArray), bt276.2)))
theorem acceptor_Decode.mono : ∀ a0 k, LeO (acceptor_Decode.f k a0) (acceptor_Decode.f (k + 1) a0) := by
 intro a0 k
 unfold acceptor_Decode.f
 repeat' first
   | (with_reducible exact codec_Decode.mono _ _ _)
   | (with_reducible exact LeO.refl _)
   | (with_reducible exact LeO.none _)
   | (with_reducible refine LeO.ite ?_ ?_)
   | (with_reducible refine LeO.bind ?_ (fun _ => ?_))
   | exact codec_Decode.mono _ _ _
   | exact LeO.none _
   | refine LeO.ite ?_ ?_
   | refine LeO.bind ?_ (fun _ => ?_)
def acceptor_Decode.T4 : Bool × List (List Nat × List Nat) := (true, [([], []), ([0], [0]), ([1], [1]), ([2], [2]), ([], []), ([4], [4]), ([5], [5]), ([6], [6]), ([3, 7], [3, 7]), ([8], [8])])
def acceptor_Decode.B4 : List Nat := [0, 1, 3, 7, 0, 16, 48, 112, 255, 511]
theorem acceptor_Decode.tab4 : rtab .any (opsOf Tryd.f9 4) = acceptor_Decode.T4 := by kernel_rfl
theorem acceptor_Decode.bits4 : waitsOk acceptor_Decode.T4.2 acceptor_Decode.B4 = true := by kernel_rfl
def acceptor_Decode.T6 : Bool × List (List Nat × List Nat) := (true, [([], []), ([0], [0]), ([1], [1]), ([2], [2]), ([3], [3]), ([], []), ([5], [5]), ([6], [6]), ([7], [7]), ([8], [8]), ([4, 9], [4, 9]), ([], []), ([11], [11]), ([12], [12]), ([13], [13]), ([14], [14]), ([], []), ([16], [16]), ([17], [17]), ([18], [18]), ([19], [19]), ([15, 20], [15, 20]), ([], []), ([22], [22]), ([23], [23]), ([24], [24]), ([10, 21, 25], [10, 21, 25]), ([], []), ([27, 26, 0, 1, 2, 3, 4, 5, 6, 7, 8, 9, 10, 11, 12, 13, 14, 15, 16, 17, 18, 19, 20, 21, 22, 23, 24, 25, 26, 27], [26, 27])])
def acceptor_Decode.B6 : List Nat := [0, 1, 3, 7, 15, 0, 32, 96, 224, 480, 1023, 0, 2048, 6144, 14336, 30720, 0, 65536, 196608, 458752, 983040, 2095104, 0, 4194304, 12582912, 29360128, 67108863, 0, 268435455]
theorem acceptor_Decode.tab6 : rtab .any (opsOf Tryd.f9 6) = acceptor_Decode.T6 := by kernel_rfl
theorem acceptor_Decode.bits6 : waitsOk acceptor_Decode.T6.2 acceptor_Decode.B6 = true := by kernel_rfl
set_option maxHeartbeats 8000000 in
set_option maxRecDepth 100000 in
theorem acceptor_Decode.calls (k : Nat) (a0 : ByteArray) (r1 : Int) (r2 : Int) (r3 : Int) (r4 : Int) (r5 : ByteArray) (r6 : Int) (w : World) (HT_ : TabOk w) (h : acceptor_Decode.f k a0 = some (r1, r2, r3, r4, r5, r6)) :
  Calls Tryd.prog 9 #[.string a0] w fun e w' => e = .returned (.tuple #[.agg #[.int .i64 r1, .int .i64 r2, .int .i64 r3, .int .i64 r4, .string r5], .int .i64 r6]) ∧ Below w.heap.size w w' := by
 have HT := Aside0.mk HT_
 clear HT_
 have hu25 := Tryd.underlying25
 have hu23 := Tryd.underlying23
 have HB := Aside0.mk (Below.refl w.heap.size w)
 have H : ((codec_Decode.f k (⟨#[108, 98, 108, 98, 116]⟩ : ByteArray) a0).bind fun bt276 => (if bt276.2 = 0 then (if 0 < (bt276.1.length : Int) then (if 2 < (bt276.1.length : Int) then (if (mx ((rd_T51 bt276.1 0).f1) ((rd_T51 bt276.1 2).f1)) > 9007199254740991 then (some (0, 0, 0, 0, (⟨#[]⟩ : ByteArray), 10)) else (if 1 < (bt276.1.length : Int) then (if 3 < (bt276.1.length : Int) then (if 4 < (bt276.1.length : Int) then ((acceptor_right.f (wrap64 ((rd_T51 bt276.1 0).f1)) (wrap64 ((rd_T51 bt276.1 1).f1)) (wrap64 ((rd_T51 bt276.1 2).f1)) (wrap64 ((rd_T51 bt276.1 3).f1)) ((rd_T51 bt276.1 4).f2)).bind fun t288 => (if t288 = true then (some (wrap64 ((rd_T51 bt276.1 0).f1), wrap64 ((rd_T51 bt276.1 1).f1), wrap64 ((rd_T51 bt276.1 2).f1), wrap64 ((rd_T51 bt276.1 3).f1), (rd_T51 bt276.1 4).f2, 0)) else (some (0, 0, 0, 0, (⟨#[]⟩ : ByteArray), 10)))) else (none)) else (none)) else (none))) else (none)) else (none)) else (some (0, 0, 0, 0, (⟨#[]⟩ : ByteArray), bt276.2)))) = some (r1, r2, r3, r4, r5, r6) := h
 clear h
 replace H := Option.bind_eq_some_iff.mp H
 obtain ⟨⟨t276, t277⟩, A20, H⟩ := H
 replace H : (if t277 = 0 then (if 0 < (t276.length : Int) then (if 2 < (t276.length : Int) then (if (mx ((rd_T51 t276 0).f1) ((rd_T51 t276 2).f1)) > 9007199254740991 then (some (0, 0, 0, 0, (⟨#[]⟩ : ByteArray), 10)) else (if 1 < (t276.length : Int) then (if 3 < (t276.length : Int) then (if 4 < (t276.length : Int) then ((acceptor_right.f (wrap64 ((rd_T51 t276 0).f1)) (wrap64 ((rd_T51 t276 1).f1)) (wrap64 ((rd_T51 t276 2).f1)) (wrap64 ((rd_T51 t276 3).f1)) ((rd_T51 t276 4).f2)).bind fun t288 => (if t288 = true then (some (wrap64 ((rd_T51 t276 0).f1), wrap64 ((rd_T51 t276 1).f1), wrap64 ((rd_T51 t276 2).f1), wrap64 ((rd_T51 t276 3).f1), (rd_T51 t276 4).f2, 0)) else (some (0, 0, 0, 0, (⟨#[]⟩ : ByteArray), 10)))) else (none)) else (none)) else (none))) else (none)) else (none)) else (some (0, 0, 0, 0, (⟨#[]⟩ : ByteArray), t277))) = some (r1, r2, r3, r4, r5, r6) := H
 have A2 := Aside0.mk A20
 clear A20
 by_cases c3 : t277 = 0
 ·rw [if_pos c3] at H
  have c3b0 : (t277 == 0) = true := beq_iff_eq.mpr c3
  have c3b1 : (t277 != 0) = false := bne_eq_false_iff_eq.mpr c3
  clear c3
  by_cases c4 : 0 < (t276.length : Int)
  ·rw [if_pos c4] at H
   have c4b0 : decide (0 < (t276.length : Int)) = true := decide_eq_true c4
   have c4b1 : decide (0 < t276.length) = true := decide_eq_true (by omega)
   clear c4
   by_cases c5 : 2 < (t276.length : Int)
   ·rw [if_pos c5] at H
    have c5b0 : decide (2 < (t276.length : Int)) = true := decide_eq_true c5
    have c5b1 : decide (2 < t276.length) = true := decide_eq_true (by omega)
    clear c5
    obtain ⟨ji6, hji6⟩ : ∃ j_ : Int, (mx ((rd_T51 t276 0).f1) ((rd_T51 t276 2).f1)) = j_ := ⟨_, rfl⟩
    replace H : (if (ji6) > 9007199254740991 then (some (0, 0, 0, 0, (⟨#[]⟩ : ByteArray), 10)) else (if 1 < (t276.length : Int) then (if 3 < (t276.length : Int) then (if 4 < (t276.length : Int) then ((acceptor_right.f (wrap64 ((rd_T51 t276 0).f1)) (wrap64 ((rd_T51 t276 1).f1)) (wrap64 ((rd_T51 t276 2).f1)) (wrap64 ((rd_T51 t276 3).f1)) ((rd_T51 t276 4).f2)).bind fun t288 => (if t288 = true then (some (wrap64 ((rd_T51 t276 0).f1), wrap64 ((rd_T51 t276 1).f1), wrap64 ((rd_T51 t276 2).f1), wrap64 ((rd_T51 t276 3).f1), (rd_T51 t276 4).f2, 0)) else (some (0, 0, 0, 0, (⟨#[]⟩ : ByteArray), 10)))) else (none)) else (none)) else (none))) = some (r1, r2, r3, r4, r5, r6) := by first | (rw [hji6] at H; exact H) | (simp only [hji6] at H ⊢; exact H)
    (try rw [hji6] at A2)
    have hji6_ : (if ((rd_T51 t276 0).f1) < ((rd_T51 t276 2).f1) then ((rd_T51 t276 2).f1) else ((rd_T51 t276 0).f1)) = ji6 := hji6
    by_cases c7 : (ji6) > 9007199254740991
    ·rw [if_pos c7] at H
     have c7b0 : decide (9007199254740991 < (ji6)) = true := decide_eq_true c7
     clear c7
     simp only [Option.some.injEq, Prod.mk.injEq] at H
     obtain ⟨rfl, rfl, rfl, rfl, rfl, rfl⟩ := H
     go_enter Tryd.func9, Tryd.ntmps9
     try go_wp2_with (first | ((with_reducible refine gate_dst (N := 2) rfl ?_); refine box_event ?hg (N := 2) ?hd (cs := #[.int .i64 0, .int .i64 0, .int .i64 0, .int .i64 0, .string (⟨#[]⟩ : ByteArray)]) (t := 25) ?hr ?_; (case hd => rfl); (case hg => rfl); (case hr => first | (go_simp; done) | (go_simp; rfl)); intro gb275 hg w8 hbox hb; have n0_ := Aside0.mk (below_step bw hb); have n1_ := Aside0.mk (hbox); have n2_ := Aside0.mk ((g1 hg bw : w.heap.size ≤ gb275)); have n3_ := Aside0.mk ((g1 hg bw : w.heap.size ≤ gb275)); clear HB; have HB := n0_; have BK275 := n1_; have GW275 := n2_; have GE275 := n3_; clear n0_ n1_ n2_ n3_; clear hb hbox hg) | ((with_reducible refine gate_callee (f := 19) rfl ?_); refine goesL_ (some 9) rfl rfl Tryd.func19 (by kernel_rfl) rfl #[.string (⟨#[108, 98, 108, 98, 116]⟩ : ByteArray), .string a0] rfl am ?_; (with_reducible refine (codec_Decode.calls k (⟨#[108, 98, 108, 98, 116]⟩ : ByteArray) a0 t276 t277 _ tbk A2.out).mono ?_); rintro e w9 ⟨v278, rfl, ho0, hb⟩; refine ⟨_, rfl, ?_⟩; have n0_ := Aside0.mk (Kd.R_lower ho0 (below_size bw)); have n1_ := Aside0.mk (nb BK275.out hb); have n2_ := Aside0.mk (below_step bw hb); clear BK275; clear HB; have HO279 := n0_; have BK275 := n1_; have HB := n2_; clear n0_ n1_ n2_; (try clear hb); (try clear hb2); (try clear hk); (try clear hi); (try clear ho0)))
     have n0_ := Aside0.mk (Kd.R_drew HO279.out)
     have n1_ := Aside0.mk (blk_drew BK275.out)
     have n2_ := Aside0.mk (below_drew1 HB.out)
     clear HO279
     clear BK275
     clear HB
     have HO279 := n0_
     have BK275 := n1_
     have HB := n2_
     clear n0_ n1_ n2_
     obtain ⟨Ao11, co11, eo11⟩ := Kd.R_slice HO279.out
     (first | subst eo11 | (injection eo11 with f1_ f2_ f3_; have f4_ := f1_.symm; have f5_ := f3_.symm; clear f1_ f2_ f3_; subst f4_; subst f5_))
     have p280 : 0 ≤ (0 : Int) := (by omega)
     have q280 : 0 < (t276.length : Int) := of_decide_eq_true (by first | (with_reducible assumption) | assumption)
     obtain ⟨ad280, e280, hx280_0, hx280_1, hx280_2⟩ := at_T51 (Kd.R_reads' HO279.out).2.2 0 p280 q280
     cases e280
     have qi280 : (0 < t276.length) = True := eq_true (by omega)
     (try rw [show ((0 : Int)).toNat = 0 from rfl] at hx280_0)
     (try rw [show 0 * 3 = 0 from rfl] at hx280_0)
     (try rw [Addr.add_zero'] at hx280_0)
     (try rw [show ((0 : Int)).toNat = 0 from rfl] at hx280_1)
     (try rw [show 0 * 3 = 0 from rfl] at hx280_1)
     (try rw [Addr.add_zero'] at hx280_1)
     (try rw [show ((0 : Int)).toNat = 0 from rfl] at hx280_2)
     (try rw [show 0 * 3 = 0 from rfl] at hx280_2)
     (try rw [Addr.add_zero'] at hx280_2)
     replace p280 := eq_true p280
     replace q280 := eq_true q280
     have p281 : 0 ≤ (2 : Int) := (by omega)
     have q281 : 2 < (t276.length : Int) := of_decide_eq_true (by first | (with_reducible assumption) | assumption)
     obtain ⟨ad281, e281, hx281_0, hx281_1, hx281_2⟩ := at_T51 (Kd.R_reads' HO279.out).2.2 2 p281 q281
     obtain rfl : ad280 = ad281 := (by injection e281)
     (try simp only [show (2 : Int).toNat = 2 from rfl, Nat.reduceMul, Nat.reduceEqDiff, Go.Addr.add, ↓reduceIte] at hx281_0)
     (try simp only [show (2 : Int).toNat = 2 from rfl, Nat.reduceMul, Nat.reduceEqDiff, Go.Addr.add, ↓reduceIte] at hx281_1)
     (try simp only [show (2 : Int).toNat = 2 from rfl, Nat.reduceMul, Nat.reduceEqDiff, Go.Addr.add, ↓reduceIte] at hx281_2)
     have qi281 : (2 < t276.length) = True := eq_true (by omega)
     (try rw [show ((2 : Int)).toNat = 2 from rfl] at hx281_0)
     (try rw [show 2 * 3 = 6 from rfl] at hx281_0)
     (try rw [show ((2 : Int)).toNat = 2 from rfl] at hx281_1)
     (try rw [show 2 * 3 = 6 from rfl] at hx281_1)
     (try rw [show ((2 : Int)).toNat = 2 from rfl] at hx281_2)
     (try rw [show 2 * 3 = 6 from rfl] at hx281_2)
     replace p281 := eq_true p281
     replace q281 := eq_true q281
     refine start_ (n := 10) (S := fun w' => w'.cell? ad280 = some (.int .i64 ((rd_T51 t276 0).f0)) ∧ w'.cell? ⟨ad280.block, ad280.off + 1, none⟩ = some (.int .u64 ((rd_T51 t276 0).f1)) ∧ w'.cell? ⟨ad280.block, ad280.off + 2, none⟩ = some (.string ((rd_T51 t276 0).f2)) ∧ w'.cell? ⟨ad280.block, ad280.off + 6, none⟩ = some (.int .i64 ((rd_T51 t276 2).f0)) ∧ w'.cell? ⟨ad280.block, ad280.off + 6 + 1, none⟩ = some (.int .u64 ((rd_T51 t276 2).f1)) ∧ w'.cell? ⟨ad280.block, ad280.off + 6 + 2, none⟩ = some (.string ((rd_T51 t276 2).f2))) (ds := []) #[false, false, false, false, false, false, false, false, false, false] (by kernel_rfl) rfl rfl ⟨hx280_0, hx280_1, hx280_2, hx281_0, hx281_1, hx281_2⟩ (fun hHeld => ?_); refine with_tabW acceptor_Decode.tab4 acceptor_Decode.bits4 (fun HT_ HW_ => ?_)
     generalize w9.drew = w10 at HO279 BK275 HB hx280_0 hx280_1 hx280_2 hx281_0 hx281_1 hx281_2 hHeld ⊢
     refine pure_ (i := 0) (N := some 16) (v := ?_) (a' := ?_) #[true, false, false, false, false, false, false, false, false, false] rfl rfl (any_of HT_.out (by kernel_rfl)) (fun _ _ _ h => h) (Or.inl ⟨by rfl, ?_⟩) ?_ ?_
     rotate_left
     ·intro w'
      go_simp
      with_reducible rfl
     rotate_left
     ·simp only [Act.put, sl1, sl2, sl3, i64_w, i32_w]
      rfl
     refine pure_ (i := 1) (N := some 17) (v := ?_) (a' := ?_) #[true, true, false, false, false, false, false, false, false, false] rfl rfl (any_of HT_.out (by kernel_rfl)) (fun _ _ _ h => h) (Or.inl ⟨by rfl, ?_⟩) ?_ ?_
     rotate_left
     ·intro w'
      go_simp
      with_reducible rfl
     rotate_left
     ·simp only [Act.put, sl1, sl2, sl3, i64_w, i32_w]
      rfl
     refine pure_ (i := 2) (N := some 18) (v := ?_) (a' := ?_) #[true, true, true, false, false, false, false, false, false, false] rfl rfl (any_of HT_.out (by kernel_rfl)) (fun _ _ _ h => h) (Or.inl ⟨by rfl, ?_⟩) ?_ ?_
     rotate_left
     ·intro w'
      go_simp
      with_reducible rfl
     rotate_left
     ·simp only [Act.put, sl1, sl2, sl3, i64_w, i32_w]
      rfl
     refine pure_ (i := 4) (N := some 20) (v := ?_) (a' := ?_) #[true, true, true, false, true, false, false, false, false, false] rfl rfl (any_of HT_.out (by kernel_rfl)) (fun _ _ _ h => h) (Or.inl ⟨by rfl, ?_⟩) ?_ ?_
     rotate_left
     ·intro w'
      go_simp
      with_reducible rfl
     rotate_left
     ·simp only [Act.put, sl1, sl2, sl3, i64_w, i32_w]
      rfl
     refine pure_ (i := 5) (N := some 21) (v := ?_) (a' := ?_) #[true, true, true, false, true, true, false, false, false, false] rfl rfl (any_of HT_.out (by kernel_rfl)) (fun _ _ _ h => h) (Or.inl ⟨by rfl, ?_⟩) ?_ ?_
     rotate_left
     ·intro w'
      go_simp
      with_reducible rfl
     rotate_left
     ·simp only [Act.put, sl1, sl2, sl3, i64_w, i32_w]
      rfl
     refine pure_ (i := 6) (N := some 22) (v := ?_) (a' := ?_) #[true, true, true, false, true, true, true, false, false, false] rfl rfl (any_of HT_.out (by kernel_rfl)) (fun _ _ _ h => h) (Or.inl ⟨by rfl, ?_⟩) ?_ ?_
     rotate_left
     ·intro w'
      go_simp
      with_reducible rfl
     rotate_left
     ·simp only [Act.put, sl1, sl2, sl3, i64_w, i32_w]
      rfl
     refine take_ (i := 3) (N := some 19) (v := ?_) (a' := ?_) #[true, true, true, true, true, true, true, false, false, false] rfl rfl (take_ofW HT_.out HW_.out (by kernel_rfl)) (fun _ _ _ h => h) (Or.inl ⟨by rfl, ?_⟩) hHeld ?_ ?_
     rotate_left
     ·rintro w' ⟨s0, s1, s2, s3, s4, s5⟩
      go_simp
      with_reducible rfl
     rotate_left
     ·simp only [Act.put, sl1, sl2, sl3, i64_w, i32_w]
      rfl
     refine take_ (i := 7) (N := some 23) (v := ?_) (a' := ?_) #[true, true, true, true, true, true, true, true, false, false] rfl rfl (take_ofW HT_.out HW_.out (by kernel_rfl)) (fun _ _ _ h => h) (Or.inl ⟨by rfl, ?_⟩) hHeld ?_ ?_
     rotate_left
     ·rintro w' ⟨s0, s1, s2, s3, s4, s5⟩
      go_simp
      with_reducible rfl
     rotate_left
     ·simp only [Act.put, sl1, sl2, sl3, i64_w, i32_w]
      rfl
     refine pure_ (i := 8) (N := some 24) (v := ?_) (a' := ?_) #[true, true, true, true, true, true, true, true, true, false] rfl rfl (any_of HT_.out (by kernel_rfl)) (fun _ _ _ h => h) (Or.inl ⟨by rfl, ?_⟩) ?_ ?_
     rotate_left
     ·intro w'
      go_simp
      with_reducible rfl
     rotate_left
     ·simp only [Act.put, sl1, sl2, sl3, i64_w, i32_w]
      rfl
     refine pure_ (i := 9) (N := some 25) (v := ?_) (a' := ?_) #[true, true, true, true, true, true, true, true, true, true] rfl rfl (any_of HT_.out (by kernel_rfl)) (fun _ _ _ h => h) (Or.inl ⟨by rfl, ?_⟩) ?_ ?_
     rotate_left
     ·intro w'
      go_simp
      with_reducible rfl
     rotate_left
     ·simp only [Act.put, sl1, sl2, sl3, i64_w, i32_w]
      rfl
     refine done_ (done_of HT_.out (by kernel_rfl)) ?_
     have hcz12_0 := bc5_0 BK275.out
     have hcz12_1 := bc5_1 BK275.out
     have hcz12_2 := bc5_2 BK275.out
     have hcz12_3 := bc5_3 BK275.out
     have hcz12_4 := bc5_4 BK275.out
     have hfz12_0 := blk_frozen BK275.out 0
     have hfz12_1 := blk_frozen BK275.out 1
     have hfz12_2 := blk_frozen BK275.out 2
     have hfz12_3 := blk_frozen BK275.out 3
     have hfz12_4 := blk_frozen BK275.out 4
     try go_wp2
     refine bodyPost_ret (results_ct rfl _ _ gb275 25 #[.int .i64 0, .int .i64 0, .int .i64 0, .int .i64 0, .string (⟨#[]⟩ : ByteArray)] (0, 0) _ rfl (by (with_reducible repeat (first | refine blk_drewN ?_ _ | refine blk_drew ?_ | refine blk_alloc ?_ _)); refine blk_put (cs := #[.int .i64 0, .int .i64 0, .int .i64 0, .int .i64 0, .string (⟨#[]⟩ : ByteArray)]) ?_ 4 _ rfl; (with_reducible repeat (first | refine blk_drewN ?_ _ | refine blk_drew ?_ | refine blk_alloc ?_ _)); refine blk_put (cs := #[.int .i64 0, .int .i64 0, .int .i64 0, .int .i64 0, .string (⟨#[]⟩ : ByteArray)]) ?_ 3 _ rfl; (with_reducible repeat (first | refine blk_drewN ?_ _ | refine blk_drew ?_ | refine blk_alloc ?_ _)); refine blk_put (cs := #[.int .i64 0, .int .i64 0, .int .i64 0, .int .i64 0, .string (⟨#[]⟩ : ByteArray)]) ?_ 2 _ rfl; (with_reducible repeat (first | refine blk_drewN ?_ _ | refine blk_drew ?_ | refine blk_alloc ?_ _)); refine blk_put (cs := #[.int .i64 0, .int .i64 0, .int .i64 0, .int .i64 0, .string (⟨#[]⟩ : ByteArray)]) ?_ 1 _ rfl; (with_reducible repeat (first | refine blk_drewN ?_ _ | refine blk_drew ?_ | refine blk_alloc ?_ _)); refine blk_put (cs := #[.int .i64 0, .int .i64 0, .int .i64 0, .int .i64 0, .string (⟨#[]⟩ : ByteArray)]) ?_ 0 _ rfl; (with_reducible repeat (first | refine blk_drewN ?_ _ | refine blk_drew ?_ | refine blk_alloc ?_ _)); exact BK275.out) Tryd.underlying25 rfl (by kernel_rfl)) rfl ?_
     exact ⟨by first | rfl | (simp [errW_none, errW_some] <;> rfl) | (simp only [← hji6]; first | rfl | (simp [errW_none, errW_some] <;> rfl)) | (simp [*, errW_none, errW_some] <;> first | rfl | (generalize ByteArray.toList _ = l_; cases l_ <;> rfl)), bw⟩
    ·rw [if_neg c7] at H
     have c7b0 : decide (9007199254740991 < (ji6)) = false := decide_eq_false c7
     clear c7
     by_cases c13 : 1 < (t276.length : Int)
     ·rw [if_pos c13] at H
      have c13b0 : decide (1 < (t276.length : Int)) = true := decide_eq_true c13
      have c13b1 : decide (1 < t276.length) = true := decide_eq_true (by omega)
      clear c13
      by_cases c14 : 3 < (t276.length : Int)
      ·rw [if_pos c14] at H
       have c14b0 : decide (3 < (t276.length : Int)) = true := decide_eq_true c14
       have c14b1 : decide (3 < t276.length) = true := decide_eq_true (by omega)
       clear c14
       by_cases c15 : 4 < (t276.length : Int)
       ·rw [if_pos c15] at H
        have c15b0 : decide (4 < (t276.length : Int)) = true := decide_eq_true c15
        have c15b1 : decide (4 < t276.length) = true := decide_eq_true (by omega)
        clear c15
        replace H := Option.bind_eq_some_iff.mp H
        obtain ⟨t288, A160, H⟩ := H
        replace H : (if t288 = true then (some (wrap64 ((rd_T51 t276 0).f1), wrap64 ((rd_T51 t276 1).f1), wrap64 ((rd_T51 t276 2).f1), wrap64 ((rd_T51 t276 3).f1), (rd_T51 t276 4).f2, 0)) else (some (0, 0, 0, 0, (⟨#[]⟩ : ByteArray), 10))) = some (r1, r2, r3, r4, r5, r6) := H
        have A16 := Aside0.mk A160
        clear A160
        by_cases c17 : t288 = true
        ·subst c17
         have H1 : (some (wrap64 ((rd_T51 t276 0).f1), wrap64 ((rd_T51 t276 1).f1), wrap64 ((rd_T51 t276 2).f1), wrap64 ((rd_T51 t276 3).f1), (rd_T51 t276 4).f2, 0)) = some (r1, r2, r3, r4, r5, r6) := by rw [if_pos rfl] at H; exact H
         clear H
         have H := H1
         clear H1
         simp only [Option.some.injEq, Prod.mk.injEq] at H
         obtain ⟨rfl, rfl, rfl, rfl, rfl, rfl⟩ := H
         go_enter Tryd.func9, Tryd.ntmps9
         try go_wp2_with (first | ((with_reducible refine gate_dst (N := 2) rfl ?_); refine box_event ?hg (N := 2) ?hd (cs := #[.int .i64 0, .int .i64 0, .int .i64 0, .int .i64 0, .string (⟨#[]⟩ : ByteArray)]) (t := 25) ?hr ?_; (case hd => rfl); (case hg => rfl); (case hr => first | (go_simp; done) | (go_simp; rfl)); intro gb275 hg w18 hbox hb; have n0_ := Aside0.mk (below_step bw hb); have n1_ := Aside0.mk (hbox); have n2_ := Aside0.mk ((g1 hg bw : w.heap.size ≤ gb275)); have n3_ := Aside0.mk ((g1 hg bw : w.heap.size ≤ gb275)); clear HB; have HB := n0_; have BK275 := n1_; have GW275 := n2_; have GE275 := n3_; clear n0_ n1_ n2_ n3_; clear hb hbox hg) | ((with_reducible refine gate_callee (f := 19) rfl ?_); refine goesL_ (some 9) rfl rfl Tryd.func19 (by kernel_rfl) rfl #[.string (⟨#[108, 98, 108, 98, 116]⟩ : ByteArray), .string a0] rfl am ?_; (with_reducible refine (codec_Decode.calls k (⟨#[108, 98, 108, 98, 116]⟩ : ByteArray) a0 t276 t277 _ tbk A2.out).mono ?_); rintro e w19 ⟨v278, rfl, ho0, hb⟩; refine ⟨_, rfl, ?_⟩; have n0_ := Aside0.mk (Kd.R_lower ho0 (below_size bw)); have n1_ := Aside0.mk (nb BK275.out hb); have n2_ := Aside0.mk (below_step bw hb); clear BK275; clear HB; have HO279 := n0_; have BK275 := n1_; have HB := n2_; clear n0_ n1_ n2_; (try clear hb); (try clear hb2); (try clear hk); (try clear hi); (try clear ho0)))
         have n0_ := Aside0.mk (Kd.R_drew HO279.out)
         have n1_ := Aside0.mk (blk_drew BK275.out)
         have n2_ := Aside0.mk (below_drew1 HB.out)
         clear HO279
         clear BK275
         clear HB
         have HO279 := n0_
         have BK275 := n1_
         have HB := n2_
         clear n0_ n1_ n2_
         obtain ⟨Ao21, co21, eo21⟩ := Kd.R_slice HO279.out
         (first | subst eo21 | (injection eo21 with f1_ f2_ f3_; have f4_ := f1_.symm; have f5_ := f3_.symm; clear f1_ f2_ f3_; subst f4_; subst f5_))
         have p280 : 0 ≤ (0 : Int) := (by omega)
         have q280 : 0 < (t276.length : Int) := of_decide_eq_true (by first | (with_reducible assumption) | assumption)
         obtain ⟨ad280, e280, hx280_0, hx280_1, hx280_2⟩ := at_T51 (Kd.R_reads' HO279.out).2.2 0 p280 q280
         cases e280
         have qi280 : (0 < t276.length) = True := eq_true (by omega)
         (try rw [show ((0 : Int)).toNat = 0 from rfl] at hx280_0)
         (try rw [show 0 * 3 = 0 from rfl] at hx280_0)
         (try rw [Addr.add_zero'] at hx280_0)
         (try rw [show ((0 : Int)).toNat = 0 from rfl] at hx280_1)
         (try rw [show 0 * 3 = 0 from rfl] at hx280_1)
         (try rw [Addr.add_zero'] at hx280_1)
         (try rw [show ((0 : Int)).toNat = 0 from rfl] at hx280_2)
         (try rw [show 0 * 3 = 0 from rfl] at hx280_2)
         (try rw [Addr.add_zero'] at hx280_2)
         replace p280 := eq_true p280
         replace q280 := eq_true q280
         have p281 : 0 ≤ (2 : Int) := (by omega)
         have q281 : 2 < (t276.length : Int) := of_decide_eq_true (by first | (with_reducible assumption) | assumption)
         obtain ⟨ad281, e281, hx281_0, hx281_1, hx281_2⟩ := at_T51 (Kd.R_reads' HO279.out).2.2 2 p281 q281
         obtain rfl : ad280 = ad281 := (by injection e281)
         (try simp only [show (2 : Int).toNat = 2 from rfl, Nat.reduceMul, Nat.reduceEqDiff, Go.Addr.add, ↓reduceIte] at hx281_0)
         (try simp only [show (2 : Int).toNat = 2 from rfl, Nat.reduceMul, Nat.reduceEqDiff, Go.Addr.add, ↓reduceIte] at hx281_1)
         (try simp only [show (2 : Int).toNat = 2 from rfl, Nat.reduceMul, Nat.reduceEqDiff, Go.Addr.add, ↓reduceIte] at hx281_2)
         have qi281 : (2 < t276.length) = True := eq_true (by omega)
         (try rw [show ((2 : Int)).toNat = 2 from rfl] at hx281_0)
         (try rw [show 2 * 3 = 6 from rfl] at hx281_0)
         (try rw [show ((2 : Int)).toNat = 2 from rfl] at hx281_1)
         (try rw [show 2 * 3 = 6 from rfl] at hx281_1)
         (try rw [show ((2 : Int)).toNat = 2 from rfl] at hx281_2)
         (try rw [show 2 * 3 = 6 from rfl] at hx281_2)
         replace p281 := eq_true p281
         replace q281 := eq_true q281
         refine start_ (n := 10) (S := fun w' => w'.cell? ad280 = some (.int .i64 ((rd_T51 t276 0).f0)) ∧ w'.cell? ⟨ad280.block, ad280.off + 1, none⟩ = some (.int .u64 ((rd_T51 t276 0).f1)) ∧ w'.cell? ⟨ad280.block, ad280.off + 2, none⟩ = some (.string ((rd_T51 t276 0).f2)) ∧ w'.cell? ⟨ad280.block, ad280.off + 6, none⟩ = some (.int .i64 ((rd_T51 t276 2).f0)) ∧ w'.cell? ⟨ad280.block, ad280.off + 6 + 1, none⟩ = some (.int .u64 ((rd_T51 t276 2).f1)) ∧ w'.cell? ⟨ad280.block, ad280.off + 6 + 2, none⟩ = some (.string ((rd_T51 t276 2).f2))) (ds := []) #[false, false, false, false, false, false, false, false, false, false] (by kernel_rfl) rfl rfl ⟨hx280_0, hx280_1, hx280_2, hx281_0, hx281_1, hx281_2⟩ (fun hHeld => ?_); refine with_tabW acceptor_Decode.tab4 acceptor_Decode.bits4 (fun HT_ HW_ => ?_)
         generalize w19.drew = w20 at HO279 BK275 HB hx280_0 hx280_1 hx280_2 hx281_0 hx281_1 hx281_2 hHeld ⊢
         refine pure_ (i := 0) (N := some 16) (v := ?_) (a' := ?_) #[true, false, false, false, false, false, false, false, false, false] rfl rfl (any_of HT_.out (by kernel_rfl)) (fun _ _ _ h => h) (Or.inl ⟨by rfl, ?_⟩) ?_ ?_
         rotate_left
         ·intro w'
          go_simp
          with_reducible rfl
         rotate_left
         ·simp only [Act.put, sl1, sl2, sl3, i64_w, i32_w]
          rfl
         refine pure_ (i := 1) (N := some 17) (v := ?_) (a' := ?_) #[true, true, false, false, false, false, false, false, false, false] rfl rfl (any_of HT_.out (by kernel_rfl)) (fun _ _ _ h => h) (Or.inl ⟨by rfl, ?_⟩) ?_ ?_
         rotate_left
         ·intro w'
          go_simp
          with_reducible rfl
         rotate_left
         ·simp only [Act.put, sl1, sl2, sl3, i64_w, i32_w]
          rfl
         refine pure_ (i := 2) (N := some 18) (v := ?_) (a' := ?_) #[true, true, true, false, false, false, false, false, false, false] rfl rfl (any_of HT_.out (by kernel_rfl)) (fun _ _ _ h => h) (Or.inl ⟨by rfl, ?_⟩) ?_ ?_
         rotate_left
         ·intro w'
          go_simp
          with_reducible rfl
         rotate_left
         ·simp only [Act.put, sl1, sl2, sl3, i64_w, i32_w]
          rfl
         refine pure_ (i := 4) (N := some 20) (v := ?_) (a' := ?_) #[true, true, true, false, true, false, false, false, false, false] rfl rfl (any_of HT_.out (by kernel_rfl)) (fun _ _ _ h => h) (Or.inl ⟨by rfl, ?_⟩) ?_ ?_
         rotate_left
         ·intro w'
          go_simp
          with_reducible rfl
         rotate_left
         ·simp only [Act.put, sl1, sl2, sl3, i64_w, i32_w]
          rfl
         refine pure_ (i := 5) (N := some 21) (v := ?_) (a' := ?_) #[true, true, true, false, true, true, false, false, false, false] rfl rfl (any_of HT_.out (by kernel_rfl)) (fun _ _ _ h => h) (Or.inl ⟨by rfl, ?_⟩) ?_ ?_
         rotate_left
         ·intro w'
          go_simp
          with_reducible rfl
         rotate_left
         ·simp only [Act.put, sl1, sl2, sl3, i64_w, i32_w]
          rfl
         refine pure_ (i := 6) (N := some 22) (v := ?_) (a' := ?_) #[true, true, true, false, true, true, true, false, false, false] rfl rfl (any_of HT_.out (by kernel_rfl)) (fun _ _ _ h => h) (Or.inl ⟨by rfl, ?_⟩) ?_ ?_
         rotate_left
         ·intro w'
          go_simp
          with_reducible rfl
         rotate_left
         ·simp only [Act.put, sl1, sl2, sl3, i64_w, i32_w]
          rfl
         refine take_ (i := 3) (N := some 19) (v := ?_) (a' := ?_) #[true, true, true, true, true, true, true, false, false, false] rfl rfl (take_ofW HT_.out HW_.out (by kernel_rfl)) (fun _ _ _ h => h) (Or.inl ⟨by rfl, ?_⟩) hHeld ?_ ?_
         rotate_left
         ·rintro w' ⟨s0, s1, s2, s3, s4, s5⟩
          go_simp
          with_reducible rfl
         rotate_left
         ·simp only [Act.put, sl1, sl2, sl3, i64_w, i32_w]
          rfl
         refine take_ (i := 7) (N := some 23) (v := ?_) (a' := ?_) #[true, true, true, true, true, true, true, true, false, false] rfl rfl (take_ofW HT_.out HW_.out (by kernel_rfl)) (fun _ _ _ h => h) (Or.inl ⟨by rfl, ?_⟩) hHeld ?_ ?_
         rotate_left
         ·rintro w' ⟨s0, s1, s2, s3, s4, s5⟩
          go_simp
          with_reducible rfl
         rotate_left
         ·simp only [Act.put, sl1, sl2, sl3, i64_w, i32_w]
          rfl
         refine pure_ (i := 8) (N := some 24) (v := ?_) (a' := ?_) #[true, true, true, true, true, true, true, true, true, false] rfl rfl (any_of HT_.out (by kernel_rfl)) (fun _ _ _ h => h) (Or.inl ⟨by rfl, ?_⟩) ?_ ?_
         rotate_left
         ·intro w'
          go_simp
          with_reducible rfl
         rotate_left
         ·simp only [Act.put, sl1, sl2, sl3, i64_w, i32_w]
          rfl
         refine pure_ (i := 9) (N := some 25) (v := ?_) (a' := ?_) #[true, true, true, true, true, true, true, true, true, true] rfl rfl (any_of HT_.out (by kernel_rfl)) (fun _ _ _ h => h) (Or.inl ⟨by rfl, ?_⟩) ?_ ?_
         rotate_left
         ·intro w'
          go_simp
          with_reducible rfl
         rotate_left
         ·simp only [Act.put, sl1, sl2, sl3, i64_w, i32_w]
          rfl
         refine done_ (done_of HT_.out (by kernel_rfl)) ?_
         try go_wp2
         have n0_ := Aside0.mk (Kd.R_drew HO279.out)
         have n1_ := Aside0.mk (blk_drew BK275.out)
         have n2_ := Aside0.mk (below_drew1 HB.out)
         clear HO279
         clear BK275
         clear HB
         have HO279 := n0_
         have BK275 := n1_
         have HB := n2_
         clear n0_ n1_ n2_
         have p282 : 0 ≤ (0 : Int) := (by omega)
         have q282 : 0 < (t276.length : Int) := of_decide_eq_true (by first | (with_reducible assumption) | assumption)
         obtain ⟨ad282, e282, hx282_0, hx282_1, hx282_2⟩ := at_T51 (Kd.R_reads' HO279.out).2.2 0 p282 q282
         obtain rfl : ad280 = ad282 := (by injection e282)
         have qi282 : (0 < t276.length) = True := eq_true (by omega)
         (try rw [show ((0 : Int)).toNat = 0 from rfl] at hx282_0)
         (try rw [show 0 * 3 = 0 from rfl] at hx282_0)
         (try rw [Addr.add_zero'] at hx282_0)
         (try rw [show ((0 : Int)).toNat = 0 from rfl] at hx282_1)
         (try rw [show 0 * 3 = 0 from rfl] at hx282_1)
         (try rw [Addr.add_zero'] at hx282_1)
         (try rw [show ((0 : Int)).toNat = 0 from rfl] at hx282_2)
         (try rw [show 0 * 3 = 0 from rfl] at hx282_2)
         (try rw [Addr.add_zero'] at hx282_2)
         replace p282 := eq_true p282
         replace q282 := eq_true q282
         have p283 : 0 ≤ (1 : Int) := (by omega)
         have q283 : 1 < (t276.length : Int) := of_decide_eq_true (by first | (with_reducible assumption) | assumption)
         obtain ⟨ad283, e283, hx283_0, hx283_1, hx283_2⟩ := at_T51 (Kd.R_reads' HO279.out).2.2 1 p283 q283
         obtain rfl : ad280 = ad283 := (by injection e283)
         (try simp only [show (1 : Int).toNat = 1 from rfl, Nat.reduceMul, Nat.reduceEqDiff, Go.Addr.add, ↓reduceIte] at hx283_0)
         (try simp only [show (1 : Int).toNat = 1 from rfl, Nat.reduceMul, Nat.reduceEqDiff, Go.Addr.add, ↓reduceIte] at hx283_1)
         (try simp only [show (1 : Int).toNat = 1 from rfl, Nat.reduceMul, Nat.reduceEqDiff, Go.Addr.add, ↓reduceIte] at hx283_2)
         have qi283 : (1 < t276.length) = True := eq_true (by omega)
         (try rw [show ((1 : Int)).toNat = 1 from rfl] at hx283_0)
         (try rw [show 1 * 3 = 3 from rfl] at hx283_0)
         (try rw [show ((1 : Int)).toNat = 1 from rfl] at hx283_1)
         (try rw [show 1 * 3 = 3 from rfl] at hx283_1)
         (try rw [show ((1 : Int)).toNat = 1 from rfl] at hx283_2)
         (try rw [show 1 * 3 = 3 from rfl] at hx283_2)
         replace p283 := eq_true p283
         replace q283 := eq_true q283
         have p284 : 0 ≤ (2 : Int) := (by omega)
         have q284 : 2 < (t276.length : Int) := of_decide_eq_true (by first | (with_reducible assumption) | assumption)
         obtain ⟨ad284, e284, hx284_0, hx284_1, hx284_2⟩ := at_T51 (Kd.R_reads' HO279.out).2.2 2 p284 q284
         obtain rfl : ad280 = ad284 := (by injection e284)
         (try simp only [show (2 : Int).toNat = 2 from rfl, Nat.reduceMul, Nat.reduceEqDiff, Go.Addr.add, ↓reduceIte] at hx284_0)
         (try simp only [show (2 : Int).toNat = 2 from rfl, Nat.reduceMul, Nat.reduceEqDiff, Go.Addr.add, ↓reduceIte] at hx284_1)
         (try simp only [show (2 : Int).toNat = 2 from rfl, Nat.reduceMul, Nat.reduceEqDiff, Go.Addr.add, ↓reduceIte] at hx284_2)
         have qi284 : (2 < t276.length) = True := eq_true (by omega)
         (try rw [show ((2 : Int)).toNat = 2 from rfl] at hx284_0)
         (try rw [show 2 * 3 = 6 from rfl] at hx284_0)
         (try rw [show ((2 : Int)).toNat = 2 from rfl] at hx284_1)
         (try rw [show 2 * 3 = 6 from rfl] at hx284_1)
         (try rw [show ((2 : Int)).toNat = 2 from rfl] at hx284_2)
         (try rw [show 2 * 3 = 6 from rfl] at hx284_2)
         replace p284 := eq_true p284
         replace q284 := eq_true q284
         have p285 : 0 ≤ (3 : Int) := (by omega)
         have q285 : 3 < (t276.length : Int) := of_decide_eq_true (by first | (with_reducible assumption) | assumption)
         obtain ⟨ad285, e285, hx285_0, hx285_1, hx285_2⟩ := at_T51 (Kd.R_reads' HO279.out).2.2 3 p285 q285
         obtain rfl : ad280 = ad285 := (by injection e285)
         (try simp only [show (3 : Int).toNat = 3 from rfl, Nat.reduceMul, Nat.reduceEqDiff, Go.Addr.add, ↓reduceIte] at hx285_0)
         (try simp only [show (3 : Int).toNat = 3 from rfl, Nat.reduceMul, Nat.reduceEqDiff, Go.Addr.add, ↓reduceIte] at hx285_1)
         (try simp only [show (3 : Int).toNat = 3 from rfl, Nat.reduceMul, Nat.reduceEqDiff, Go.Addr.add, ↓reduceIte] at hx285_2)
         have qi285 : (3 < t276.length) = True := eq_true (by omega)
         (try rw [show ((3 : Int)).toNat = 3 from rfl] at hx285_0)
         (try rw [show 3 * 3 = 9 from rfl] at hx285_0)
         (try rw [show ((3 : Int)).toNat = 3 from rfl] at hx285_1)
         (try rw [show 3 * 3 = 9 from rfl] at hx285_1)
         (try rw [show ((3 : Int)).toNat = 3 from rfl] at hx285_2)
         (try rw [show 3 * 3 = 9 from rfl] at hx285_2)
         replace p285 := eq_true p285
         replace q285 := eq_true q285
         have p286 : 0 ≤ (4 : Int) := (by omega)
         have q286 : 4 < (t276.length : Int) := of_decide_eq_true (by first | (with_reducible assumption) | assumption)
         obtain ⟨ad286, e286, hx286_0, hx286_1, hx286_2⟩ := at_T51 (Kd.R_reads' HO279.out).2.2 4 p286 q286
         obtain rfl : ad280 = ad286 := (by injection e286)
         (try simp only [show (4 : Int).toNat = 4 from rfl, Nat.reduceMul, Nat.reduceEqDiff, Go.Addr.add, ↓reduceIte] at hx286_0)
         (try simp only [show (4 : Int).toNat = 4 from rfl, Nat.reduceMul, Nat.reduceEqDiff, Go.Addr.add, ↓reduceIte] at hx286_1)
         (try simp only [show (4 : Int).toNat = 4 from rfl, Nat.reduceMul, Nat.reduceEqDiff, Go.Addr.add, ↓reduceIte] at hx286_2)
         have qi286 : (4 < t276.length) = True := eq_true (by omega)
         (try rw [show ((4 : Int)).toNat = 4 from rfl] at hx286_0)
         (try rw [show 4 * 3 = 12 from rfl] at hx286_0)
         (try rw [show ((4 : Int)).toNat = 4 from rfl] at hx286_1)
         (try rw [show 4 * 3 = 12 from rfl] at hx286_1)
         (try rw [show ((4 : Int)).toNat = 4 from rfl] at hx286_2)
         (try rw [show 4 * 3 = 12 from rfl] at hx286_2)
         replace p286 := eq_true p286
         replace q286 := eq_true q286
         refine start_ (n := 29) (S := fun w' => w'.cell? ad280 = some (.int .i64 ((rd_T51 t276 0).f0)) ∧ w'.cell? ⟨ad280.block, ad280.off + 1, none⟩ = some (.int .u64 ((rd_T51 t276 0).f1)) ∧ w'.cell? ⟨ad280.block, ad280.off + 2, none⟩ = some (.string ((rd_T51 t276 0).f2)) ∧ w'.cell? ⟨ad280.block, ad280.off + 3, none⟩ = some (.int .i64 ((rd_T51 t276 1).f0)) ∧ w'.cell? ⟨ad280.block, ad280.off + 3 + 1, none⟩ = some (.int .u64 ((rd_T51 t276 1).f1)) ∧ w'.cell? ⟨ad280.block, ad280.off + 3 + 2, none⟩ = some (.string ((rd_T51 t276 1).f2)) ∧ w'.cell? ⟨ad280.block, ad280.off + 6, none⟩ = some (.int .i64 ((rd_T51 t276 2).f0)) ∧ w'.cell? ⟨ad280.block, ad280.off + 6 + 1, none⟩ = some (.int .u64 ((rd_T51 t276 2).f1)) ∧ w'.cell? ⟨ad280.block, ad280.off + 6 + 2, none⟩ = some (.string ((rd_T51 t276 2).f2)) ∧ w'.cell? ⟨ad280.block, ad280.off + 9, none⟩ = some (.int .i64 ((rd_T51 t276 3).f0)) ∧ w'.cell? ⟨ad280.block, ad280.off + 9 + 1, none⟩ = some (.int .u64 ((rd_T51 t276 3).f1)) ∧ w'.cell? ⟨ad280.block, ad280.off + 9 + 2, none⟩ = some (.string ((rd_T51 t276 3).f2)) ∧ w'.cell? ⟨ad280.block, ad280.off + 12, none⟩ = some (.int .i64 ((rd_T51 t276 4).f0)) ∧ w'.cell? ⟨ad280.block, ad280.off + 12 + 1, none⟩ = some (.int .u64 ((rd_T51 t276 4).f1)) ∧ w'.cell? ⟨ad280.block, ad280.off + 12 + 2, none⟩ = some (.string ((rd_T51 t276 4).f2))) (ds := []) #[false, false, false, false, false, false, false, false, false, false, false, false, false, false, false, false, false, false, false, false, false, false, false, false, false, false, false, false, false] (by kernel_rfl) rfl rfl ⟨hx282_0, hx282_1, hx282_2, hx283_0, hx283_1, hx283_2, hx284_0, hx284_1, hx284_2, hx285_0, hx285_1, hx285_2, hx286_0, hx286_1, hx286_2⟩ (fun hHeld => ?_); refine with_tabW acceptor_Decode.tab6 acceptor_Decode.bits6 (fun HT_ HW_ => ?_)
         generalize w20.drew = w22 at HO279 BK275 HB hx282_0 hx282_1 hx282_2 hx283_0 hx283_1 hx283_2 hx284_0 hx284_1 hx284_2 hx285_0 hx285_1 hx285_2 hx286_0 hx286_1 hx286_2 hHeld ⊢
         refine pure_ (i := 0) (N := some 27) (v := ?_) (a' := ?_) #[true, false, false, false, false, false, false, false, false, false, false, false, false, false, false, false, false, false, false, false, false, false, false, false, false, false, false, false, false] rfl rfl (any_of HT_.out (by kernel_rfl)) (fun _ _ _ h => h) (Or.inl ⟨by rfl, ?_⟩) ?_ ?_
         rotate_left
         ·intro w'
          go_simp
          with_reducible rfl
         rotate_left
         ·simp only [Act.put, sl1, sl2, sl3, i64_w, i32_w]
          rfl
         refine pure_ (i := 1) (N := some 28) (v := ?_) (a' := ?_) #[true, true, false, false, false, false, false, false, false, false, false, false, false, false, false, false, false, false, false, false, false, false, false, false, false, false, false, false, false] rfl rfl (any_of HT_.out (by kernel_rfl)) (fun _ _ _ h => h) (Or.inl ⟨by rfl, ?_⟩) ?_ ?_
         rotate_left
         ·intro w'
          go_simp
          with_reducible rfl
         rotate_left
         ·simp only [Act.put, sl1, sl2, sl3, i64_w, i32_w]
          rfl
         refine pure_ (i := 2) (N := some 29) (v := ?_) (a' := ?_) #[true, true, true, false, false, false, false, false, false, false, false, false, false, false, false, false, false, false, false, false, false, false, false, false, false, false, false, false, false] rfl rfl (any_of HT_.out (by kernel_rfl)) (fun _ _ _ h => h) (Or.inl ⟨by rfl, ?_⟩) ?_ ?_
         rotate_left
         ·intro w'
          go_simp
          with_reducible rfl
         rotate_left
         ·simp only [Act.put, sl1, sl2, sl3, i64_w, i32_w]
          rfl
         refine pure_ (i := 5) (N := some 32) (v := ?_) (a' := ?_) #[true, true, true, false, false, true, false, false, false, false, false, false, false, false, false, false, false, false, false, false, false, false, false, false, false, false, false, false, false] rfl rfl (any_of HT_.out (by kernel_rfl)) (fun _ _ _ h => h) (Or.inl ⟨by rfl, ?_⟩) ?_ ?_
         rotate_left
         ·intro w'
          go_simp
          with_reducible rfl
         rotate_left
         ·simp only [Act.put, sl1, sl2, sl3, i64_w, i32_w]
          rfl
         refine pure_ (i := 6) (N := some 33) (v := ?_) (a' := ?_) #[true, true, true, false, false, true, true, false, false, false, false, false, false, false, false, false, false, false, false, false, false, false, false, false, false, false, false, false, false] rfl rfl (any_of HT_.out (by kernel_rfl)) (fun _ _ _ h => h) (Or.inl ⟨by rfl, ?_⟩) ?_ ?_
         rotate_left
         ·intro w'
          go_simp
          with_reducible rfl
         rotate_left
         ·simp only [Act.put, sl1, sl2, sl3, i64_w, i32_w]
          rfl
         refine pure_ (i := 7) (N := some 34) (v := ?_) (a' := ?_) #[true, true, true, false, false, true, true, true, false, false, false, false, false, false, false, false, false, false, false, false, false, false, false, false, false, false, false, false, false] rfl rfl (any_of HT_.out (by kernel_rfl)) (fun _ _ _ h => h) (Or.inl ⟨by rfl, ?_⟩) ?_ ?_
         rotate_left
         ·intro w'
          go_simp
          with_reducible rfl
         rotate_left
         ·simp only [Act.put, sl1, sl2, sl3, i64_w, i32_w]
          rfl
         refine pure_ (i := 11) (N := some 38) (v := ?_) (a' := ?_) #[true, true, true, false, false, true, true, true, false, false, false, true, false, false, false, false, false, false, false, false, false, false, false, false, false, false, false, false, false] rfl rfl (any_of HT_.out (by kernel_rfl)) (fun _ _ _ h => h) (Or.inl ⟨by rfl, ?_⟩) ?_ ?_
         rotate_left
         ·intro w'
          go_simp
          with_reducible rfl
         rotate_left
         ·simp only [Act.put, sl1, sl2, sl3, i64_w, i32_w]
          rfl
         refine pure_ (i := 12) (N := some 39) (v := ?_) (a' := ?_) #[true, true, true, false, false, true, true, true, false, false, false, true, true, false, false, false, false, false, false, false, false, false, false, false, false, false, false, false, false] rfl rfl (any_of HT_.out (by kernel_rfl)) (fun _ _ _ h => h) (Or.inl ⟨by rfl, ?_⟩) ?_ ?_
         rotate_left
         ·intro w'
          go_simp
          with_reducible rfl
         rotate_left
         ·simp only [Act.put, sl1, sl2, sl3, i64_w, i32_w]
          rfl
         refine pure_ (i := 13) (N := some 40) (v := ?_) (a' := ?_) #[true, true, true, false, false, true, true, true, false, false, false, true, true, true, false, false, false, false, false, false, false, false, false, false, false, false, false, false, false] rfl rfl (any_of HT_.out (by kernel_rfl)) (fun _ _ _ h => h) (Or.inl ⟨by rfl, ?_⟩) ?_ ?_
         rotate_left
         ·intro w'
          go_simp
          with_reducible rfl
         rotate_left
         ·simp only [Act.put, sl1, sl2, sl3, i64_w, i32_w]
          rfl
         refine pure_ (i := 16) (N := some 43) (v := ?_) (a' := ?_) #[true, true, true, false, false, true, true, true, false, false, false, true, true, true, false, false, true, false, false, false, false, false, false, false, false, false, false, false, false] rfl rfl (any_of HT_.out (by kernel_rfl)) (fun _ _ _ h => h) (Or.inl ⟨by rfl, ?_⟩) ?_ ?_
         rotate_left
         ·intro w'
          go_simp
          with_reducible rfl
         rotate_left
         ·simp only [Act.put, sl1, sl2, sl3, i64_w, i32_w]
          rfl
         refine pure_ (i := 17) (N := some 44) (v := ?_) (a' := ?_) #[true, true, true, false, false, true, true, true, false, false, false, true, true, true, false, false, true, true, false, false, false, false, false, false, false, false, false, false, false] rfl rfl (any_of HT_.out (by kernel_rfl)) (fun _ _ _ h => h) (Or.inl ⟨by rfl, ?_⟩) ?_ ?_
         rotate_left
         ·intro w'
          go_simp
          with_reducible rfl
         rotate_left
         ·simp only [Act.put, sl1, sl2, sl3, i64_w, i32_w]
          rfl
         refine pure_ (i := 18) (N := some 45) (v := ?_) (a' := ?_) #[true, true, true, false, false, true, true, true, false, false, false, true, true, true, false, false, true, true, true, false, false, false, false, false, false, false, false, false, false] rfl rfl (any_of HT_.out (by kernel_rfl)) (fun _ _ _ h => h) (Or.inl ⟨by rfl, ?_⟩) ?_ ?_
         rotate_left
         ·intro w'
          go_simp
          with_reducible rfl
         rotate_left
         ·simp only [Act.put, sl1, sl2, sl3, i64_w, i32_w]
          rfl
         refine pure_ (i := 22) (N := some 49) (v := ?_) (a' := ?_) #[true, true, true, false, false, true, true, true, false, false, false, true, true, true, false, false, true, true, true, false, false, false, true, false, false, false, false, false, false] rfl rfl (any_of HT_.out (by kernel_rfl)) (fun _ _ _ h => h) (Or.inl ⟨by rfl, ?_⟩) ?_ ?_
         rotate_left
         ·intro w'
          go_simp
          with_reducible rfl
         rotate_left
         ·simp only [Act.put, sl1, sl2, sl3, i64_w, i32_w]
          rfl
         refine pure_ (i := 23) (N := some 50) (v := ?_) (a' := ?_) #[true, true, true, false, false, true, true, true, false, false, false, true, true, true, false, false, true, true, true, false, false, false, true, true, false, false, false, false, false] rfl rfl (any_of HT_.out (by kernel_rfl)) (fun _ _ _ h => h) (Or.inl ⟨by rfl, ?_⟩) ?_ ?_
         rotate_left
         ·intro w'
          go_simp
          with_reducible rfl
         rotate_left
         ·simp only [Act.put, sl1, sl2, sl3, i64_w, i32_w]
          rfl
         refine pure_ (i := 24) (N := some 51) (v := ?_) (a' := ?_) #[true, true, true, false, false, true, true, true, false, false, false, true, true, true, false, false, true, true, true, false, false, false, true, true, true, false, false, false, false] rfl rfl (any_of HT_.out (by kernel_rfl)) (fun _ _ _ h => h) (Or.inl ⟨by rfl, ?_⟩) ?_ ?_
         rotate_left
         ·intro w'
          go_simp
          with_reducible rfl
         rotate_left
         ·simp only [Act.put, sl1, sl2, sl3, i64_w, i32_w]
          rfl
         refine take_ (i := 3) (N := some 30) (v := ?_) (a' := ?_) #[true, true, true, true, false, true, true, true, false, false, false, true, true, true, false, false, true, true, true, false, false, false, true, true, true, false, false, false, false] rfl rfl (take_ofW HT_.out HW_.out (by kernel_rfl)) (fun _ _ _ h => h) (Or.inl ⟨by rfl, ?_⟩) hHeld ?_ ?_
         rotate_left
         ·rintro w' ⟨s0, s1, s2, s3, s4, s5, s6, s7, s8, s9, s10, s11, s12, s13, s14⟩
          go_simp
          with_reducible rfl
         rotate_left
         ·simp only [Act.put, sl1, sl2, sl3, i64_w, i32_w]
          rfl
         refine pure_ (i := 4) (N := some 31) (v := ?_) (a' := ?_) #[true, true, true, true, true, true, true, true, false, false, false, true, true, true, false, false, true, true, true, false, false, false, true, true, true, false, false, false, false] rfl rfl (any_of HT_.out (by kernel_rfl)) (fun _ _ _ h => h) (Or.inl ⟨by rfl, ?_⟩) ?_ ?_
         rotate_left
         ·intro w'
          go_simp
          with_reducible rfl
         rotate_left
         ·simp only [Act.put, sl1, sl2, sl3, i64_w, i32_w]
          rfl
         refine take_ (i := 8) (N := some 35) (v := ?_) (a' := ?_) #[true, true, true, true, true, true, true, true, true, false, false, true, true, true, false, false, true, true, true, false, false, false, true, true, true, false, false, false, false] rfl rfl (take_ofW HT_.out HW_.out (by kernel_rfl)) (fun _ _ _ h => h) (Or.inl ⟨by rfl, ?_⟩) hHeld ?_ ?_
         rotate_left
         ·rintro w' ⟨s0, s1, s2, s3, s4, s5, s6, s7, s8, s9, s10, s11, s12, s13, s14⟩
          go_simp
          with_reducible rfl
         rotate_left
         ·simp only [Act.put, sl1, sl2, sl3, i64_w, i32_w]
          rfl
         refine pure_ (i := 9) (N := some 36) (v := ?_) (a' := ?_) #[true, true, true, true, true, true, true, true, true, true, false, true, true, true, false, false, true, true, true, false, false, false, true, true, true, false, false, false, false] rfl rfl (any_of HT_.out (by kernel_rfl)) (fun _ _ _ h => h) (Or.inl ⟨by rfl, ?_⟩) ?_ ?_
         rotate_left
         ·intro w'
          go_simp
          with_reducible rfl
         rotate_left
         ·simp only [Act.put, sl1, sl2, sl3, i64_w, i32_w]
          rfl
         refine pure_ (i := 10) (N := some 37) (v := ?_) (a' := ?_) #[true, true, true, true, true, true, true, true, true, true, true, true, true, true, false, false, true, true, true, false, false, false, true, true, true, false, false, false, false] rfl rfl (any_of HT_.out (by kernel_rfl)) (fun _ _ _ h => h) (Or.inl ⟨by rfl, ?_⟩) ?_ ?_
         rotate_left
         ·intro w'
          go_simp
          with_reducible rfl
         rotate_left
         ·simp only [Act.put, sl1, sl2, sl3, i64_w, i32_w]
          rfl
         refine take_ (i := 14) (N := some 41) (v := ?_) (a' := ?_) #[true, true, true, true, true, true, true, true, true, true, true, true, true, true, true, false, true, true, true, false, false, false, true, true, true, false, false, false, false] rfl rfl (take_ofW HT_.out HW_.out (by kernel_rfl)) (fun _ _ _ h => h) (Or.inl ⟨by rfl, ?_⟩) hHeld ?_ ?_
         rotate_left
         ·rintro w' ⟨s0, s1, s2, s3, s4, s5, s6, s7, s8, s9, s10, s11, s12, s13, s14⟩
          go_simp
          with_reducible rfl
         rotate_left
         ·simp only [Act.put, sl1, sl2, sl3, i64_w, i32_w]
          rfl
         refine pure_ (i := 15) (N := some 42) (v := ?_) (a' := ?_) #[true, true, true, true, true, true, true, true, true, true, true, true, true, true, true, true, true, true, true, false, false, false, true, true, true, false, false, false, false] rfl rfl (any_of HT_.out (by kernel_rfl)) (fun _ _ _ h => h) (Or.inl ⟨by rfl, ?_⟩) ?_ ?_
         rotate_left
         ·intro w'
          go_simp
          with_reducible rfl
         rotate_left
         ·simp only [Act.put, sl1, sl2, sl3, i64_w, i32_w]
          rfl
         refine take_ (i := 19) (N := some 46) (v := ?_) (a' := ?_) #[true, true, true, true, true, true, true, true, true, true, true, true, true, true, true, true, true, true, true, true, false, false, true, true, true, false, false, false, false] rfl rfl (take_ofW HT_.out HW_.out (by kernel_rfl)) (fun _ _ _ h => h) (Or.inl ⟨by rfl, ?_⟩) hHeld ?_ ?_
         rotate_left
         ·rintro w' ⟨s0, s1, s2, s3, s4, s5, s6, s7, s8, s9, s10, s11, s12, s13, s14⟩
          go_simp
          with_reducible rfl
         rotate_left
         ·simp only [Act.put, sl1, sl2, sl3, i64_w, i32_w]
          rfl
         refine pure_ (i := 20) (N := some 47) (v := ?_) (a' := ?_) #[true, true, true, true, true, true, true, true, true, true, true, true, true, true, true, true, true, true, true, true, true, false, true, true, true, false, false, false, false] rfl rfl (any_of HT_.out (by kernel_rfl)) (fun _ _ _ h => h) (Or.inl ⟨by rfl, ?_⟩) ?_ ?_
         rotate_left
         ·intro w'
          go_simp
          with_reducible rfl
         rotate_left
         ·simp only [Act.put, sl1, sl2, sl3, i64_w, i32_w]
          rfl
         refine pure_ (i := 21) (N := some 48) (v := ?_) (a' := ?_) #[true, true, true, true, true, true, true, true, true, true, true, true, true, true, true, true, true, true, true, true, true, true, true, true, true, false, false, false, false] rfl rfl (any_of HT_.out (by kernel_rfl)) (fun _ _ _ h => h) (Or.inl ⟨by rfl, ?_⟩) ?_ ?_
         rotate_left
         ·intro w'
          go_simp
          with_reducible rfl
         rotate_left
         ·simp only [Act.put, sl1, sl2, sl3, i64_w, i32_w]
          rfl
         refine take_ (i := 25) (N := some 52) (v := ?_) (a' := ?_) #[true, true, true, true, true, true, true, true, true, true, true, true, true, true, true, true, true, true, true, true, true, true, true, true, true, true, false, false, false] rfl rfl (take_ofW HT_.out HW_.out (by kernel_rfl)) (fun _ _ _ h => h) (Or.inl ⟨by rfl, ?_⟩) hHeld ?_ ?_
         rotate_left
         ·rintro w' ⟨s0, s1, s2, s3, s4, s5, s6, s7, s8, s9, s10, s11, s12, s13, s14⟩
          go_simp
          with_reducible rfl
         rotate_left
         ·simp only [Act.put, sl1, sl2, sl3, i64_w, i32_w]
          rfl
         refine pure_ (i := 26) (N := some 53) (v := ?_) (a' := ?_) #[true, true, true, true, true, true, true, true, true, true, true, true, true, true, true, true, true, true, true, true, true, true, true, true, true, true, true, false, false] rfl rfl (any_of HT_.out (by kernel_rfl)) (fun _ _ _ h => h) (Or.inl ⟨by rfl, ?_⟩) ?_ ?_
         rotate_left
         ·intro w'
          go_simp
          with_reducible rfl
         rotate_left
         ·simp only [Act.put, sl1, sl2, sl3, i64_w, i32_w]
          rfl
         refine one_ (i := 27) (N := some 6) #[true, true, true, true, true, true, true, true, true, true, true, true, true, true, true, true, true, true, true, true, true, true, true, true, true, true, true, true, false] rfl rfl (one_of HT_.out (by kernel_rfl)) (by decide) (fun K hK => ?_)
         refine box_step ?hg (N := 6) ?hd (cs := #[.int .i64 0, .int .i64 0, .int .i64 0, .int .i64 0, .string (⟨#[]⟩ : ByteArray)]) (t := 25) ?hr ?_; (case hd => rfl); (case hg => rfl); (case hr => first | (go_simp; done) | (go_simp; rfl))
         intro gb287 hg w23 hbox hb
         have HS0_ := (hb.cell (World.block_lt_of_cell? _ _ (hHeld.1))).trans (hHeld.1)
         have HS1_ := (hb.cell (World.block_lt_of_cell? _ _ (hHeld.2.1))).trans (hHeld.2.1)
         have HS2_ := (hb.cell (World.block_lt_of_cell? _ _ (hHeld.2.2.1))).trans (hHeld.2.2.1)
         have HS3_ := (hb.cell (World.block_lt_of_cell? _ _ (hHeld.2.2.2.1))).trans (hHeld.2.2.2.1)
         have HS4_ := (hb.cell (World.block_lt_of_cell? _ _ (hHeld.2.2.2.2.1))).trans (hHeld.2.2.2.2.1)
         have HS5_ := (hb.cell (World.block_lt_of_cell? _ _ (hHeld.2.2.2.2.2.1))).trans (hHeld.2.2.2.2.2.1)
         have HS6_ := (hb.cell (World.block_lt_of_cell? _ _ (hHeld.2.2.2.2.2.2.1))).trans (hHeld.2.2.2.2.2.2.1)
         have HS7_ := (hb.cell (World.block_lt_of_cell? _ _ (hHeld.2.2.2.2.2.2.2.1))).trans (hHeld.2.2.2.2.2.2.2.1)
         have HS8_ := (hb.cell (World.block_lt_of_cell? _ _ (hHeld.2.2.2.2.2.2.2.2.1))).trans (hHeld.2.2.2.2.2.2.2.2.1)
         have HS9_ := (hb.cell (World.block_lt_of_cell? _ _ (hHeld.2.2.2.2.2.2.2.2.2.1))).trans (hHeld.2.2.2.2.2.2.2.2.2.1)
         have HS10_ := (hb.cell (World.block_lt_of_cell? _ _ (hHeld.2.2.2.2.2.2.2.2.2.2.1))).trans (hHeld.2.2.2.2.2.2.2.2.2.2.1)
         have HS11_ := (hb.cell (World.block_lt_of_cell? _ _ (hHeld.2.2.2.2.2.2.2.2.2.2.2.1))).trans (hHeld.2.2.2.2.2.2.2.2.2.2.2.1)
         have HS12_ := (hb.cell (World.block_lt_of_cell? _ _ (hHeld.2.2.2.2.2.2.2.2.2.2.2.2.1))).trans (hHeld.2.2.2.2.2.2.2.2.2.2.2.2.1)
         have HS13_ := (hb.cell (World.block_lt_of_cell? _ _ (hHeld.2.2.2.2.2.2.2.2.2.2.2.2.2.1))).trans (hHeld.2.2.2.2.2.2.2.2.2.2.2.2.2.1)
         have HS14_ := (hb.cell (World.block_lt_of_cell? _ _ (hHeld.2.2.2.2.2.2.2.2.2.2.2.2.2.2))).trans (hHeld.2.2.2.2.2.2.2.2.2.2.2.2.2.2)
         have n0_ := Aside0.mk (Kd.R_below (by (with_reducible repeat (first | apply Kd.R_alloc | apply Kd.R_drewN | apply Kd.R_drew)); exact HO279.out) hb)
         have n1_ := Aside0.mk (nb BK275.out hb)
         have n2_ := Aside0.mk (below_step bw hb)
         have n3_ := Aside0.mk (hbox)
         have n4_ := Aside0.mk ((g1 hg bw : w.heap.size ≤ gb287))
         have n5_ := Aside0.mk ((g1 hg bw : w.heap.size ≤ gb287))
         have n6_ := Aside0.mk ((n1 hg BK275.out : gb275 ≠ gb287))
         have n7_ := Aside0.mk ((n2 hg BK275.out : gb287 ≠ gb275))
         clear HO279
         clear BK275
         clear HB
         have HO279 := n0_
         have BK275 := n1_
         have HB := n2_
         have BK287 := n3_
         have GW287 := n4_
         have GE287 := n5_
         have NB275_287 := n6_
         have NB287_275 := n7_
         clear n0_ n1_ n2_ n3_ n4_ n5_ n6_ n7_
         clear hb hbox hg
         refine hK.out _ _ ⟨HS0_, HS1_, HS2_, HS3_, HS4_, HS5_, HS6_, HS7_, HS8_, HS9_, HS10_, HS11_, HS12_, HS13_, HS14_⟩ (fun hHeld => ?_)
         clear hK K
         refine norm_ (a' := ?_) ?_ ?_
         rotate_left
         ·show Act.put _ (some 6) _ = _
          simp only [Act.put, sl1, sl2, sl3, i64_w, i32_w]
          rfl
         refine one_ (i := 28) (N := none) #[true, true, true, true, true, true, true, true, true, true, true, true, true, true, true, true, true, true, true, true, true, true, true, true, true, true, true, true, true] rfl rfl (one_of HT_.out (by kernel_rfl)) (by decide) (fun K hK => ?_)
         have hs24 : w23.cell? ⟨gb287, 0, none⟩ = some (.int .i64 0) := (blk_cell BK287.out 0).trans rfl
         have hfs24 := blk_frozen BK287.out 0
         have hns24_0 := NB275_287.out
         have hms24_0 := NB287_275.out
         have hs25 : w23.cell? ⟨gb287, 1, none⟩ = some (.int .i64 0) := (blk_cell BK287.out 1).trans rfl
         have hfs25 := blk_frozen BK287.out 1
         have hns25_0 := NB275_287.out
         have hms25_0 := NB287_275.out
         have hs26 : w23.cell? ⟨gb287, 2, none⟩ = some (.int .i64 0) := (blk_cell BK287.out 2).trans rfl
         have hfs26 := blk_frozen BK287.out 2
         have hns26_0 := NB275_287.out
         have hms26_0 := NB287_275.out
         have hs27 : w23.cell? ⟨gb287, 3, none⟩ = some (.int .i64 0) := (blk_cell BK287.out 3).trans rfl
         have hfs27 := blk_frozen BK287.out 3
         have hns27_0 := NB275_287.out
         have hms27_0 := NB287_275.out
         have hs28 : w23.cell? ⟨gb287, 4, none⟩ = some (.string (⟨#[]⟩ : ByteArray)) := (blk_cell BK287.out 4).trans rfl
         have hfs28 := blk_frozen BK287.out 4
         have hns28_0 := NB275_287.out
         have hms28_0 := NB287_275.out
         refine skip_ (w1 := ?_) (by rfl) rfl ?_ ?_
         rotate_left
         ·go_simp
          rfl
         refine hK.out _ _ ⟨((cf (p := ⟨gb287, _, none⟩) (Kd.own_blk (Kd.R_ne HO279.out BK287.out (by decide)))).trans (((cf (p := ⟨gb287, _, none⟩) (Kd.own_blk (Kd.R_ne HO279.out BK287.out (by decide)))).trans (((cf (p := ⟨gb287, _, none⟩) (Kd.own_blk (Kd.R_ne HO279.out BK287.out (by decide)))).trans (((cf (p := ⟨gb287, _, none⟩) (Kd.own_blk (Kd.R_ne HO279.out BK287.out (by decide)))).trans (((cf (p := ⟨gb287, _, none⟩) (Kd.own_blk (Kd.R_ne HO279.out BK287.out (by decide)))).trans (hHeld.1)))))))))), ((cf (p := ⟨gb287, _, none⟩) (Kd.own_blk (Kd.R_ne HO279.out BK287.out (by decide)))).trans (((cf (p := ⟨gb287, _, none⟩) (Kd.own_blk (Kd.R_ne HO279.out BK287.out (by decide)))).trans (((cf (p := ⟨gb287, _, none⟩) (Kd.own_blk (Kd.R_ne HO279.out BK287.out (by decide)))).trans (((cf (p := ⟨gb287, _, none⟩) (Kd.own_blk (Kd.R_ne HO279.out BK287.out (by decide)))).trans (((cf (p := ⟨gb287, _, none⟩) (Kd.own_blk (Kd.R_ne HO279.out BK287.out (by decide)))).trans (hHeld.2.1)))))))))), ((cf (p := ⟨gb287, _, none⟩) (Kd.own_blk (Kd.R_ne HO279.out BK287.out (by decide)))).trans (((cf (p := ⟨gb287, _, none⟩) (Kd.own_blk (Kd.R_ne HO279.out BK287.out (by decide)))).trans (((cf (p := ⟨gb287, _, none⟩) (Kd.own_blk (Kd.R_ne HO279.out BK287.out (by decide)))).trans (((cf (p := ⟨gb287, _, none⟩) (Kd.own_blk (Kd.R_ne HO279.out BK287.out (by decide)))).trans (((cf (p := ⟨gb287, _, none⟩) (Kd.own_blk (Kd.R_ne HO279.out BK287.out (by decide)))).trans (hHeld.2.2.1)))))))))), ((cf (p := ⟨gb287, _, none⟩) (Kd.own_blk (Kd.R_ne HO279.out BK287.out (by decide)))).trans (((cf (p := ⟨gb287, _, none⟩) (Kd.own_blk (Kd.R_ne HO279.out BK287.out (by decide)))).trans (((cf (p := ⟨gb287, _, none⟩) (Kd.own_blk (Kd.R_ne HO279.out BK287.out (by decide)))).trans (((cf (p := ⟨gb287, _, none⟩) (Kd.own_blk (Kd.R_ne HO279.out BK287.out (by decide)))).trans (((cf (p := ⟨gb287, _, none⟩) (Kd.own_blk (Kd.R_ne HO279.out BK287.out (by decide)))).trans (hHeld.2.2.2.1)))))))))), ((cf (p := ⟨gb287, _, none⟩) (Kd.own_blk (Kd.R_ne HO279.out BK287.out (by decide)))).trans (((cf (p := ⟨gb287, _, none⟩) (Kd.own_blk (Kd.R_ne HO279.out BK287.out (by decide)))).trans (((cf (p := ⟨gb287, _, none⟩) (Kd.own_blk (Kd.R_ne HO279.out BK287.out (by decide)))).trans (((cf (p := ⟨gb287, _, none⟩) (Kd.own_blk (Kd.R_ne HO279.out BK287.out (by decide)))).trans (((cf (p := ⟨gb287, _, none⟩) (Kd.own_blk (Kd.R_ne HO279.out BK287.out (by decide)))).trans (hHeld.2.2.2.2.1)))))))))), ((cf (p := ⟨gb287, _, none⟩) (Kd.own_blk (Kd.R_ne HO279.out BK287.out (by decide)))).trans (((cf (p := ⟨gb287, _, none⟩) (Kd.own_blk (Kd.R_ne HO279.out BK287.out (by decide)))).trans (((cf (p := ⟨gb287, _, none⟩) (Kd.own_blk (Kd.R_ne HO279.out BK287.out (by decide)))).trans (((cf (p := ⟨gb287, _, none⟩) (Kd.own_blk (Kd.R_ne HO279.out BK287.out (by decide)))).trans (((cf (p := ⟨gb287, _, none⟩) (Kd.own_blk (Kd.R_ne HO279.out BK287.out (by decide)))).trans (hHeld.2.2.2.2.2.1)))))))))), ((cf (p := ⟨gb287, _, none⟩) (Kd.own_blk (Kd.R_ne HO279.out BK287.out (by decide)))).trans (((cf (p := ⟨gb287, _, none⟩) (Kd.own_blk (Kd.R_ne HO279.out BK287.out (by decide)))).trans (((cf (p := ⟨gb287, _, none⟩) (Kd.own_blk (Kd.R_ne HO279.out BK287.out (by decide)))).trans (((cf (p := ⟨gb287, _, none⟩) (Kd.own_blk (Kd.R_ne HO279.out BK287.out (by decide)))).trans (((cf (p := ⟨gb287, _, none⟩) (Kd.own_blk (Kd.R_ne HO279.out BK287.out (by decide)))).trans (hHeld.2.2.2.2.2.2.1)))))))))), ((cf (p := ⟨gb287, _, none⟩) (Kd.own_blk (Kd.R_ne HO279.out BK287.out (by decide)))).trans (((cf (p := ⟨gb287, _, none⟩) (Kd.own_blk (Kd.R_ne HO279.out BK287.out (by decide)))).trans (((cf (p := ⟨gb287, _, none⟩) (Kd.own_blk (Kd.R_ne HO279.out BK287.out (by decide)))).trans (((cf (p := ⟨gb287, _, none⟩) (Kd.own_blk (Kd.R_ne HO279.out BK287.out (by decide)))).trans (((cf (p := ⟨gb287, _, none⟩) (Kd.own_blk (Kd.R_ne HO279.out BK287.out (by decide)))).trans (hHeld.2.2.2.2.2.2.2.1)))))))))), ((cf (p := ⟨gb287, _, none⟩) (Kd.own_blk (Kd.R_ne HO279.out BK287.out (by decide)))).trans (((cf (p := ⟨gb287, _, none⟩) (Kd.own_blk (Kd.R_ne HO279.out BK287.out (by decide)))).trans (((cf (p := ⟨gb287, _, none⟩) (Kd.own_blk (Kd.R_ne HO279.out BK287.out (by decide)))).trans (((cf (p := ⟨gb287, _, none⟩) (Kd.own_blk (Kd.R_ne HO279.out BK287.out (by decide)))).trans (((cf (p := ⟨gb287, _, none⟩) (Kd.own_blk (Kd.R_ne HO279.out BK287.out (by decide)))).trans (hHeld.2.2.2.2.2.2.2.2.1)))))))))), ((cf (p := ⟨gb287, _, none⟩) (Kd.own_blk (Kd.R_ne HO279.out BK287.out (by decide)))).trans (((cf (p := ⟨gb287, _, none⟩) (Kd.own_blk (Kd.R_ne HO279.out BK287.out (by decide)))).trans (((cf (p := ⟨gb287, _, none⟩) (Kd.own_blk (Kd.R_ne HO279.out BK287.out (by decide)))).trans (((cf (p := ⟨gb287, _, none⟩) (Kd.own_blk (Kd.R_ne HO279.out BK287.out (by decide)))).trans (((cf (p := ⟨gb287, _, none⟩) (Kd.own_blk (Kd.R_ne HO279.out BK287.out (by decide)))).trans (hHeld.2.2.2.2.2.2.2.2.2.1)))))))))), ((cf (p := ⟨gb287, _, none⟩) (Kd.own_blk (Kd.R_ne HO279.out BK287.out (by decide)))).trans (((cf (p := ⟨gb287, _, none⟩) (Kd.own_blk (Kd.R_ne HO279.out BK287.out (by decide)))).trans (((cf (p := ⟨gb287, _, none⟩) (Kd.own_blk (Kd.R_ne HO279.out BK287.out (by decide)))).trans (((cf (p := ⟨gb287, _, none⟩) (Kd.own_blk (Kd.R_ne HO279.out BK287.out (by decide)))).trans (((cf (p := ⟨gb287, _, none⟩) (Kd.own_blk (Kd.R_ne HO279.out BK287.out (by decide)))).trans (hHeld.2.2.2.2.2.2.2.2.2.2.1)))))))))), ((cf (p := ⟨gb287, _, none⟩) (Kd.own_blk (Kd.R_ne HO279.out BK287.out (by decide)))).trans (((cf (p := ⟨gb287, _, none⟩) (Kd.own_blk (Kd.R_ne HO279.out BK287.out (by decide)))).trans (((cf (p := ⟨gb287, _, none⟩) (Kd.own_blk (Kd.R_ne HO279.out BK287.out (by decide)))).trans (((cf (p := ⟨gb287, _, none⟩) (Kd.own_blk (Kd.R_ne HO279.out BK287.out (by decide)))).trans (((cf (p := ⟨gb287, _, none⟩) (Kd.own_blk (Kd.R_ne HO279.out BK287.out (by decide)))).trans (hHeld.2.2.2.2.2.2.2.2.2.2.2.1)))))))))), ((cf (p := ⟨gb287, _, none⟩) (Kd.own_blk (Kd.R_ne HO279.out BK287.out (by decide)))).trans (((cf (p := ⟨gb287, _, none⟩) (Kd.own_blk (Kd.R_ne HO279.out BK287.out (by decide)))).trans (((cf (p := ⟨gb287, _, none⟩) (Kd.own_blk (Kd.R_ne HO279.out BK287.out (by decide)))).trans (((cf (p := ⟨gb287, _, none⟩) (Kd.own_blk (Kd.R_ne HO279.out BK287.out (by decide)))).trans (((cf (p := ⟨gb287, _, none⟩) (Kd.own_blk (Kd.R_ne HO279.out BK287.out (by decide)))).trans (hHeld.2.2.2.2.2.2.2.2.2.2.2.2.1)))))))))), ((cf (p := ⟨gb287, _, none⟩) (Kd.own_blk (Kd.R_ne HO279.out BK287.out (by decide)))).trans (((cf (p := ⟨gb287, _, none⟩) (Kd.own_blk (Kd.R_ne HO279.out BK287.out (by decide)))).trans (((cf (p := ⟨gb287, _, none⟩) (Kd.own_blk (Kd.R_ne HO279.out BK287.out (by decide)))).trans (((cf (p := ⟨gb287, _, none⟩) (Kd.own_blk (Kd.R_ne HO279.out BK287.out (by decide)))).trans (((cf (p := ⟨gb287, _, none⟩) (Kd.own_blk (Kd.R_ne HO279.out BK287.out (by decide)))).trans (hHeld.2.2.2.2.2.2.2.2.2.2.2.2.2.1)))))))))), ((cf (p := ⟨gb287, _, none⟩) (Kd.own_blk (Kd.R_ne HO279.out BK287.out (by decide)))).trans (((cf (p := ⟨gb287, _, none⟩) (Kd.own_blk (Kd.R_ne HO279.out BK287.out (by decide)))).trans (((cf (p := ⟨gb287, _, none⟩) (Kd.own_blk (Kd.R_ne HO279.out BK287.out (by decide)))).trans (((cf (p := ⟨gb287, _, none⟩) (Kd.own_blk (Kd.R_ne HO279.out BK287.out (by decide)))).trans (((cf (p := ⟨gb287, _, none⟩) (Kd.own_blk (Kd.R_ne HO279.out BK287.out (by decide)))).trans (hHeld.2.2.2.2.2.2.2.2.2.2.2.2.2.2))))))))))⟩ (fun hHeld => ?_)
         clear hK K
         refine done_ (done_of HT_.out (by kernel_rfl)) ?_
         have hnb29 := NB287_275.out
         have hnc29 := NB275_287.out
         have hcz30_0 := bc5_0 BK287.out
         have hcz30_1 := bc5_1 BK287.out
         have hcz30_2 := bc5_2 BK287.out
         have hcz30_3 := bc5_3 BK287.out
         have hcz30_4 := bc5_4 BK287.out
         have hfz30_0 := blk_frozen BK287.out 0
         have hfz30_1 := blk_frozen BK287.out 1
         have hfz30_2 := blk_frozen BK287.out 2
         have hfz30_3 := blk_frozen BK287.out 3
         have hfz30_4 := blk_frozen BK287.out 4
         try go_wp2_with (first | ((with_reducible refine gate_callee (f := 15) rfl ?_); refine goesL_ (some 55) rfl rfl Tryd.func15 (by kernel_rfl) rfl #[.agg #[.int .i64 (wrap64 ((rd_T51 t276 0).f1)), .int .i64 (wrap64 ((rd_T51 t276 1).f1)), .int .i64 (wrap64 ((rd_T51 t276 2).f1)), .int .i64 (wrap64 ((rd_T51 t276 3).f1)), .string ((rd_T51 t276 4).f2)]] rfl am ?_; (with_reducible refine (acceptor_right.calls (wrap64 ((rd_T51 t276 0).f1)) (wrap64 ((rd_T51 t276 1).f1)) (wrap64 ((rd_T51 t276 2).f1)) (wrap64 ((rd_T51 t276 3).f1)) ((rd_T51 t276 4).f2) true _ A16.out).mono ?_); rintro e w31 ⟨rfl, hb⟩; refine ⟨_, rfl, ?_⟩; have n0_ := Aside0.mk (Kd.R_below (by (with_reducible repeat (first | apply Kd.R_alloc | apply Kd.R_drewN | apply Kd.R_drew)); exact (Kd.R_mono (Kd.R_far (p := ⟨gb287, 4, none⟩) (Kd.R_far (p := ⟨gb287, 3, none⟩) (Kd.R_far (p := ⟨gb287, 2, none⟩) (Kd.R_far (p := ⟨gb287, 1, none⟩) (Kd.R_far (p := ⟨gb287, 0, none⟩) (Kd.R_types HO279.out BK287.out (by decide)) (fun _ hk => hk.2) (.int .i64 (wrap64 ((rd_T51 t276 0).f1)))) (fun _ hk => hk.2) (.int .i64 (wrap64 ((rd_T51 t276 1).f1)))) (fun _ hk => hk.2) (.int .i64 (wrap64 ((rd_T51 t276 2).f1)))) (fun _ hk => hk.2) (.int .i64 (wrap64 ((rd_T51 t276 3).f1)))) (fun _ hk => hk.2) (.string ((rd_T51 t276 4).f2))) (fun _ h_ => h_.1))) hb); have n1_ := Aside0.mk (blk_below (g := gb275) (o := .cells #[.int .i64 0, .int .i64 0, .int .i64 0, .int .i64 0, .string (⟨#[]⟩ : ByteArray)] 25 (0, 0)) (by (with_reducible repeat (first | refine blk_drewN ?_ _ | refine blk_drew ?_ | refine blk_alloc ?_ _ | refine blk_far ?_ NB275_287.out _)); exact BK275.out) hb); have n2_ := Aside0.mk (blk_below (g := gb287) (o := .cells #[.int .i64 (wrap64 ((rd_T51 t276 0).f1)), .int .i64 (wrap64 ((rd_T51 t276 1).f1)), .int .i64 (wrap64 ((rd_T51 t276 2).f1)), .int .i64 (wrap64 ((rd_T51 t276 3).f1)), .string ((rd_T51 t276 4).f2)] 25 (0, 0)) (by (with_reducible repeat (first | refine blk_drewN ?_ _ | refine blk_drew ?_ | refine blk_alloc ?_ _)); refine blk_put (cs := #[.int .i64 (wrap64 ((rd_T51 t276 0).f1)), .int .i64 (wrap64 ((rd_T51 t276 1).f1)), .int .i64 (wrap64 ((rd_T51 t276 2).f1)), .int .i64 (wrap64 ((rd_T51 t276 3).f1)), .string (⟨#[]⟩ : ByteArray)]) ?_ 4 _ rfl; (with_reducible repeat (first | refine blk_drewN ?_ _ | refine blk_drew ?_ | refine blk_alloc ?_ _)); refine blk_put (cs := #[.int .i64 (wrap64 ((rd_T51 t276 0).f1)), .int .i64 (wrap64 ((rd_T51 t276 1).f1)), .int .i64 (wrap64 ((rd_T51 t276 2).f1)), .int .i64 0, .string (⟨#[]⟩ : ByteArray)]) ?_ 3 _ rfl; (with_reducible repeat (first | refine blk_drewN ?_ _ | refine blk_drew ?_ | refine blk_alloc ?_ _)); refine blk_put (cs := #[.int .i64 (wrap64 ((rd_T51 t276 0).f1)), .int .i64 (wrap64 ((rd_T51 t276 1).f1)), .int .i64 0, .int .i64 0, .string (⟨#[]⟩ : ByteArray)]) ?_ 2 _ rfl; (with_reducible repeat (first | refine blk_drewN ?_ _ | refine blk_drew ?_ | refine blk_alloc ?_ _)); refine blk_put (cs := #[.int .i64 (wrap64 ((rd_T51 t276 0).f1)), .int .i64 0, .int .i64 0, .int .i64 0, .string (⟨#[]⟩ : ByteArray)]) ?_ 1 _ rfl; (with_reducible repeat (first | refine blk_drewN ?_ _ | refine blk_drew ?_ | refine blk_alloc ?_ _)); refine blk_put (cs := #[.int .i64 0, .int .i64 0, .int .i64 0, .int .i64 0, .string (⟨#[]⟩ : ByteArray)]) ?_ 0 _ rfl; (with_reducible repeat (first | refine blk_drewN ?_ _ | refine blk_drew ?_ | refine blk_alloc ?_ _)); exact BK287.out) hb); have n3_ := Aside0.mk (below_step bw hb); clear HO279; clear BK275; clear BK287; clear HB; have HO279 := n0_; have BK275 := n1_; have BK287 := n2_; have HB := n3_; clear n0_ n1_ n2_ n3_; (try clear hb); (try clear hb2); (try clear hk); (try clear hi); have hcz32_0 := bc5_0 BK287.out; have hcz32_1 := bc5_1 BK287.out; have hcz32_2 := bc5_2 BK287.out; have hcz32_3 := bc5_3 BK287.out; have hcz32_4 := bc5_4 BK287.out; have hfz32_0 := blk_frozen BK287.out 0; have hfz32_1 := blk_frozen BK287.out 1; have hfz32_2 := blk_frozen BK287.out 2; have hfz32_3 := blk_frozen BK287.out 3; have hfz32_4 := blk_frozen BK287.out 4; have hcz33_0 := bc5_0 BK275.out; have hcz33_1 := bc5_1 BK275.out; have hcz33_2 := bc5_2 BK275.out; have hcz33_3 := bc5_3 BK275.out; have hcz33_4 := bc5_4 BK275.out; have hfz33_0 := blk_frozen BK275.out 0; have hfz33_1 := blk_frozen BK275.out 1; have hfz33_2 := blk_frozen BK275.out 2; have hfz33_3 := blk_frozen BK275.out 3; have hfz33_4 := blk_frozen BK275.out 4))
         refine bodyPost_ret (results_ct rfl _ _ gb275 25 #[.int .i64 (wrap64 ((rd_T51 t276 0).f1)), .int .i64 (wrap64 ((rd_T51 t276 1).f1)), .int .i64 (wrap64 ((rd_T51 t276 2).f1)), .int .i64 (wrap64 ((rd_T51 t276 3).f1)), .string ((rd_T51 t276 4).f2)] (0, 0) _ rfl (by (with_reducible repeat (first | refine blk_drewN ?_ _ | refine blk_drew ?_ | refine blk_alloc ?_ _)); refine blk_put (cs := #[.int .i64 (wrap64 ((rd_T51 t276 0).f1)), .int .i64 (wrap64 ((rd_T51 t276 1).f1)), .int .i64 (wrap64 ((rd_T51 t276 2).f1)), .int .i64 (wrap64 ((rd_T51 t276 3).f1)), .string (⟨#[]⟩ : ByteArray)]) ?_ 4 _ rfl; (with_reducible repeat (first | refine blk_drewN ?_ _ | refine blk_drew ?_ | refine blk_alloc ?_ _)); refine blk_put (cs := #[.int .i64 (wrap64 ((rd_T51 t276 0).f1)), .int .i64 (wrap64 ((rd_T51 t276 1).f1)), .int .i64 (wrap64 ((rd_T51 t276 2).f1)), .int .i64 0, .string (⟨#[]⟩ : ByteArray)]) ?_ 3 _ rfl; (with_reducible repeat (first | refine blk_drewN ?_ _ | refine blk_drew ?_ | refine blk_alloc ?_ _)); refine blk_put (cs := #[.int .i64 (wrap64 ((rd_T51 t276 0).f1)), .int .i64 (wrap64 ((rd_T51 t276 1).f1)), .int .i64 0, .int .i64 0, .string (⟨#[]⟩ : ByteArray)]) ?_ 2 _ rfl; (with_reducible repeat (first | refine blk_drewN ?_ _ | refine blk_drew ?_ | refine blk_alloc ?_ _)); refine blk_put (cs := #[.int .i64 (wrap64 ((rd_T51 t276 0).f1)), .int .i64 0, .int .i64 0, .int .i64 0, .string (⟨#[]⟩ : ByteArray)]) ?_ 1 _ rfl; (with_reducible repeat (first | refine blk_drewN ?_ _ | refine blk_drew ?_ | refine blk_alloc ?_ _)); refine blk_put (cs := #[.int .i64 0, .int .i64 0, .int .i64 0, .int .i64 0, .string (⟨#[]⟩ : ByteArray)]) ?_ 0 _ rfl; (with_reducible repeat (first | refine blk_drewN ?_ _ | refine blk_drew ?_ | refine blk_alloc ?_ _)); exact BK275.out) Tryd.underlying25 rfl (by kernel_rfl)) rfl ?_
         exact ⟨by first | rfl | (simp [errW_none, errW_some] <;> rfl) | (simp only [← hji6]; first | rfl | (simp [errW_none, errW_some] <;> rfl)) | (simp [*, errW_none, errW_some] <;> first | rfl | (generalize ByteArray.toList _ = l_; cases l_ <;> rfl)), bw⟩
        ·replace c17 := Bool.eq_false_iff.mpr c17
         subst c17
         have H1 : (some (0, 0, 0, 0, (⟨#[]⟩ : ByteArray), 10)) = some (r1, r2, r3, r4, r5, r6) := by rw [if_neg (show ¬ (false = true) by decide)] at H; exact H
         clear H
         have H := H1
         clear H1
         simp only [Option.some.injEq, Prod.mk.injEq] at H
         obtain ⟨rfl, rfl, rfl, rfl, rfl, rfl⟩ := H
         go_enter Tryd.func9, Tryd.ntmps9
         try go_wp2_with (first | ((with_reducible refine gate_dst (N := 2) rfl ?_); refine box_event ?hg (N := 2) ?hd (cs := #[.int .i64 0, .int .i64 0, .int .i64 0, .int .i64 0, .string (⟨#[]⟩ : ByteArray)]) (t := 25) ?hr ?_; (case hd => rfl); (case hg => rfl); (case hr => first | (go_simp; done) | (go_simp; rfl)); intro gb275 hg w34 hbox hb; have n0_ := Aside0.mk (below_step bw hb); have n1_ := Aside0.mk (hbox); have n2_ := Aside0.mk ((g1 hg bw : w.heap.size ≤ gb275)); have n3_ := Aside0.mk ((g1 hg bw : w.heap.size ≤ gb275)); clear HB; have HB := n0_; have BK275 := n1_; have GW275 := n2_; have GE275 := n3_; clear n0_ n1_ n2_ n3_; clear hb hbox hg) | ((with_reducible refine gate_callee (f := 19) rfl ?_); refine goesL_ (some 9) rfl rfl Tryd.func19 (by kernel_rfl) rfl #[.string (⟨#[108, 98, 108, 98, 116]⟩ : ByteArray), .string a0] rfl am ?_; (with_reducible refine (codec_Decode.calls k (⟨#[108, 98, 108, 98, 116]⟩ : ByteArray) a0 t276 t277 _ tbk A2.out).mono ?_); rintro e w35 ⟨v278, rfl, ho0, hb⟩; refine ⟨_, rfl, ?_⟩; have n0_ := Aside0.mk (Kd.R_lower ho0 (below_size bw)); have n1_ := Aside0.mk (nb BK275.out hb); have n2_ := Aside0.mk (below_step bw hb); clear BK275; clear HB; have HO279 := n0_; have BK275 := n1_; have HB := n2_; clear n0_ n1_ n2_; (try clear hb); (try clear hb2); (try clear hk); (try clear hi); (try clear ho0)))
         have n0_ := Aside0.mk (Kd.R_drew HO279.out)
         have n1_ := Aside0.mk (blk_drew BK275.out)
         have n2_ := Aside0.mk (below_drew1 HB.out)
         clear HO279
         clear BK275
         clear HB
         have HO279 := n0_
         have BK275 := n1_
         have HB := n2_
         clear n0_ n1_ n2_
         obtain ⟨Ao37, co37, eo37⟩ := Kd.R_slice HO279.out
         (first | subst eo37 | (injection eo37 with f1_ f2_ f3_; have f4_ := f1_.symm; have f5_ := f3_.symm; clear f1_ f2_ f3_; subst f4_; subst f5_))
         have p280 : 0 ≤ (0 : Int) := (by omega)
         have q280 : 0 < (t276.length : Int) := of_decide_eq_true (by first | (with_reducible assumption) | assumption)
         obtain ⟨ad280, e280, hx280_0, hx280_1, hx280_2⟩ := at_T51 (Kd.R_reads' HO279.out).2.2 0 p280 q280
         cases e280
         have qi280 : (0 < t276.length) = True := eq_true (by omega)
         (try rw [show ((0 : Int)).toNat = 0 from rfl] at hx280_0)
         (try rw [show 0 * 3 = 0 from rfl] at hx280_0)
         (try rw [Addr.add_zero'] at hx280_0)
         (try rw [show ((0 : Int)).toNat = 0 from rfl] at hx280_1)
         (try rw [show 0 * 3 = 0 from rfl] at hx280_1)
         (try rw [Addr.add_zero'] at hx280_1)
         (try rw [show ((0 : Int)).toNat = 0 from rfl] at hx280_2)
         (try rw [show 0 * 3 = 0 from rfl] at hx280_2)
         (try rw [Addr.add_zero'] at hx280_2)
         replace p280 := eq_true p280
         replace q280 := eq_true q280
         have p281 : 0 ≤ (2 : Int) := (by omega)
         have q281 : 2 < (t276.length : Int) := of_decide_eq_true (by first | (with_reducible assumption) | assumption)
         obtain ⟨ad281, e281, hx281_0, hx281_1, hx281_2⟩ := at_T51 (Kd.R_reads' HO279.out).2.2 2 p281 q281
         obtain rfl : ad280 = ad281 := (by injection e281)
         (try simp only [show (2 : Int).toNat = 2 from rfl, Nat.reduceMul, Nat.reduceEqDiff, Go.Addr.add, ↓reduceIte] at hx281_0)
         (try simp only [show (2 : Int).toNat = 2 from rfl, Nat.reduceMul, Nat.reduceEqDiff, Go.Addr.add, ↓reduceIte] at hx281_1)
         (try simp only [show (2 : Int).toNat = 2 from rfl, Nat.reduceMul, Nat.reduceEqDiff, Go.Addr.add, ↓reduceIte] at hx281_2)
         have qi281 : (2 < t276.length) = True := eq_true (by omega)
         (try rw [show ((2 : Int)).toNat = 2 from rfl] at hx281_0)
         (try rw [show 2 * 3 = 6 from rfl] at hx281_0)
         (try rw [show ((2 : Int)).toNat = 2 from rfl] at hx281_1)
         (try rw [show 2 * 3 = 6 from rfl] at hx281_1)
         (try rw [show ((2 : Int)).toNat = 2 from rfl] at hx281_2)
         (try rw [show 2 * 3 = 6 from rfl] at hx281_2)
         replace p281 := eq_true p281
         replace q281 := eq_true q281
         refine start_ (n := 10) (S := fun w' => w'.cell? ad280 = some (.int .i64 ((rd_T51 t276 0).f0)) ∧ w'.cell? ⟨ad280.block, ad280.off + 1, none⟩ = some (.int .u64 ((rd_T51 t276 0).f1)) ∧ w'.cell? ⟨ad280.block, ad280.off + 2, none⟩ = some (.string ((rd_T51 t276 0).f2)) ∧ w'.cell? ⟨ad280.block, ad280.off + 6, none⟩ = some (.int .i64 ((rd_T51 t276 2).f0)) ∧ w'.cell? ⟨ad280.block, ad280.off + 6 + 1, none⟩ = some (.int .u64 ((rd_T51 t276 2).f1)) ∧ w'.cell? ⟨ad280.block, ad280.off + 6 + 2, none⟩ = some (.string ((rd_T51 t276 2).f2))) (ds := []) #[false, false, false, false, false, false, false, false, false, false] (by kernel_rfl) rfl rfl ⟨hx280_0, hx280_1, hx280_2, hx281_0, hx281_1, hx281_2⟩ (fun hHeld => ?_); refine with_tabW acceptor_Decode.tab4 acceptor_Decode.bits4 (fun HT_ HW_ => ?_)
         generalize w35.drew = w36 at HO279 BK275 HB hx280_0 hx280_1 hx280_2 hx281_0 hx281_1 hx281_2 hHeld ⊢
         refine pure_ (i := 0) (N := some 16) (v := ?_) (a' := ?_) #[true, false, false, false, false, false, false, false, false, false] rfl rfl (any_of HT_.out (by kernel_rfl)) (fun _ _ _ h => h) (Or.inl ⟨by rfl, ?_⟩) ?_ ?_
         rotate_left
         ·intro w'
          go_simp
          with_reducible rfl
         rotate_left
         ·simp only [Act.put, sl1, sl2, sl3, i64_w, i32_w]
          rfl
         refine pure_ (i := 1) (N := some 17) (v := ?_) (a' := ?_) #[true, true, false, false, false, false, false, false, false, false] rfl rfl (any_of HT_.out (by kernel_rfl)) (fun _ _ _ h => h) (Or.inl ⟨by rfl, ?_⟩) ?_ ?_
         rotate_left
         ·intro w'
          go_simp
          with_reducible rfl
         rotate_left
         ·simp only [Act.put, sl1, sl2, sl3, i64_w, i32_w]
          rfl
         refine pure_ (i := 2) (N := some 18) (v := ?_) (a' := ?_) #[true, true, true, false, false, false, false, false, false, false] rfl rfl (any_of HT_.out (by kernel_rfl)) (fun _ _ _ h => h) (Or.inl ⟨by rfl, ?_⟩) ?_ ?_
         rotate_left
         ·intro w'
          go_simp
          with_reducible rfl
         rotate_left
         ·simp only [Act.put, sl1, sl2, sl3, i64_w, i32_w]
          rfl
         refine pure_ (i := 4) (N := some 20) (v := ?_) (a' := ?_) #[true, true, true, false, true, false, false, false, false, false] rfl rfl (any_of HT_.out (by kernel_rfl)) (fun _ _ _ h => h) (Or.inl ⟨by rfl, ?_⟩) ?_ ?_
         rotate_left
         ·intro w'
          go_simp
          with_reducible rfl
         rotate_left
         ·simp only [Act.put, sl1, sl2, sl3, i64_w, i32_w]
          rfl
         refine pure_ (i := 5) (N := some 21) (v := ?_) (a' := ?_) #[true, true, true, false, true, true, false, false, false, false] rfl rfl (any_of HT_.out (by kernel_rfl)) (fun _ _ _ h => h) (Or.inl ⟨by rfl, ?_⟩) ?_ ?_
         rotate_left
         ·intro w'
          go_simp
          with_reducible rfl
         rotate_left
         ·simp only [Act.put, sl1, sl2, sl3, i64_w, i32_w]
          rfl
         refine pure_ (i := 6) (N := some 22) (v := ?_) (a' := ?_) #[true, true, true, false, true, true, true, false, false, false] rfl rfl (any_of HT_.out (by kernel_rfl)) (fun _ _ _ h => h) (Or.inl ⟨by rfl, ?_⟩) ?_ ?_
         rotate_left
         ·intro w'
          go_simp
          with_reducible rfl
         rotate_left
         ·simp only [Act.put, sl1, sl2, sl3, i64_w, i32_w]
          rfl
         refine take_ (i := 3) (N := some 19) (v := ?_) (a' := ?_) #[true, true, true, true, true, true, true, false, false, false] rfl rfl (take_ofW HT_.out HW_.out (by kernel_rfl)) (fun _ _ _ h => h) (Or.inl ⟨by rfl, ?_⟩) hHeld ?_ ?_
         rotate_left
         ·rintro w' ⟨s0, s1, s2, s3, s4, s5⟩
          go_simp
          with_reducible rfl
         rotate_left
         ·simp only [Act.put, sl1, sl2, sl3, i64_w, i32_w]
          rfl
         refine take_ (i := 7) (N := some 23) (v := ?_) (a' := ?_) #[true, true, true, true, true, true, true, true, false, false] rfl rfl (take_ofW HT_.out HW_.out (by kernel_rfl)) (fun _ _ _ h => h) (Or.inl ⟨by rfl, ?_⟩) hHeld ?_ ?_
         rotate_left
         ·rintro w' ⟨s0, s1, s2, s3, s4, s5⟩
          go_simp
          with_reducible rfl
         rotate_left
         ·simp only [Act.put, sl1, sl2, sl3, i64_w, i32_w]
          rfl
         refine pure_ (i := 8) (N := some 24) (v := ?_) (a' := ?_) #[true, true, true, true, true, true, true, true, true, false] rfl rfl (any_of HT_.out (by kernel_rfl)) (fun _ _ _ h => h) (Or.inl ⟨by rfl, ?_⟩) ?_ ?_
         rotate_left
         ·intro w'
          go_simp
          with_reducible rfl
         rotate_left
         ·simp only [Act.put, sl1, sl2, sl3, i64_w, i32_w]
          rfl
         refine pure_ (i := 9) (N := some 25) (v := ?_) (a' := ?_) #[true, true, true, true, true, true, true, true, true, true] rfl rfl (any_of HT_.out (by kernel_rfl)) (fun _ _ _ h => h) (Or.inl ⟨by rfl, ?_⟩) ?_ ?_
         rotate_left
         ·intro w'
          go_simp
          with_reducible rfl
         rotate_left
         ·simp only [Act.put, sl1, sl2, sl3, i64_w, i32_w]
          rfl
         refine done_ (done_of HT_.out (by kernel_rfl)) ?_
         try go_wp2
         have n0_ := Aside0.mk (Kd.R_drew HO279.out)
         have n1_ := Aside0.mk (blk_drew BK275.out)
         have n2_ := Aside0.mk (below_drew1 HB.out)
         clear HO279
         clear BK275
         clear HB
         have HO279 := n0_
         have BK275 := n1_
         have HB := n2_
         clear n0_ n1_ n2_
         have p282 : 0 ≤ (0 : Int) := (by omega)
         have q282 : 0 < (t276.length : Int) := of_decide_eq_true (by first | (with_reducible assumption) | assumption)
         obtain ⟨ad282, e282, hx282_0, hx282_1, hx282_2⟩ := at_T51 (Kd.R_reads' HO279.out).2.2 0 p282 q282
         obtain rfl : ad280 = ad282 := (by injection e282)
         have qi282 : (0 < t276.length) = True := eq_true (by omega)
         (try rw [show ((0 : Int)).toNat = 0 from rfl] at hx282_0)
         (try rw [show 0 * 3 = 0 from rfl] at hx282_0)
         (try rw [Addr.add_zero'] at hx282_0)
         (try rw [show ((0 : Int)).toNat = 0 from rfl] at hx282_1)
         (try rw [show 0 * 3 = 0 from rfl] at hx282_1)
         (try rw [Addr.add_zero'] at hx282_1)
         (try rw [show ((0 : Int)).toNat = 0 from rfl] at hx282_2)
         (try rw [show 0 * 3 = 0 from rfl] at hx282_2)
         (try rw [Addr.add_zero'] at hx282_2)
         replace p282 := eq_true p282
         replace q282 := eq_true q282
         have p283 : 0 ≤ (1 : Int) := (by omega)
         have q283 : 1 < (t276.length : Int) := of_decide_eq_true (by first | (with_reducible assumption) | assumption)
         obtain ⟨ad283, e283, hx283_0, hx283_1, hx283_2⟩ := at_T51 (Kd.R_reads' HO279.out).2.2 1 p283 q283
         obtain rfl : ad280 = ad283 := (by injection e283)
         (try simp only [show (1 : Int).toNat = 1 from rfl, Nat.reduceMul, Nat.reduceEqDiff, Go.Addr.add, ↓reduceIte] at hx283_0)
         (try simp only [show (1 : Int).toNat = 1 from rfl, Nat.reduceMul, Nat.reduceEqDiff, Go.Addr.add, ↓reduceIte] at hx283_1)
         (try simp only [show (1 : Int).toNat = 1 from rfl, Nat.reduceMul, Nat.reduceEqDiff, Go.Addr.add, ↓reduceIte] at hx283_2)
         have qi283 : (1 < t276.length) = True := eq_true (by omega)
         (try rw [show ((1 : Int)).toNat = 1 from rfl] at hx283_0)
         (try rw [show 1 * 3 = 3 from rfl] at hx283_0)
         (try rw [show ((1 : Int)).toNat = 1 from rfl] at hx283_1)
         (try rw [show 1 * 3 = 3 from rfl] at hx283_1)
         (try rw [show ((1 : Int)).toNat = 1 from rfl] at hx283_2)
         (try rw [show 1 * 3 = 3 from rfl] at hx283_2)
         replace p283 := eq_true p283
         replace q283 := eq_true q283
         have p284 : 0 ≤ (2 : Int) := (by omega)
         have q284 : 2 < (t276.length : Int) := of_decide_eq_true (by first | (with_reducible assumption) | assumption)
         obtain ⟨ad284, e284, hx284_0, hx284_1, hx284_2⟩ := at_T51 (Kd.R_reads' HO279.out).2.2 2 p284 q284
         obtain rfl : ad280 = ad284 := (by injection e284)
         (try simp only [show (2 : Int).toNat = 2 from rfl, Nat.reduceMul, Nat.reduceEqDiff, Go.Addr.add, ↓reduceIte] at hx284_0)
         (try simp only [show (2 : Int).toNat = 2 from rfl, Nat.reduceMul, Nat.reduceEqDiff, Go.Addr.add, ↓reduceIte] at hx284_1)
         (try simp only [show (2 : Int).toNat = 2 from rfl, Nat.reduceMul, Nat.reduceEqDiff, Go.Addr.add, ↓reduceIte] at hx284_2)
         have qi284 : (2 < t276.length) = True := eq_true (by omega)
         (try rw [show ((2 : Int)).toNat = 2 from rfl] at hx284_0)
         (try rw [show 2 * 3 = 6 from rfl] at hx284_0)
         (try rw [show ((2 : Int)).toNat = 2 from rfl] at hx284_1)
         (try rw [show 2 * 3 = 6 from rfl] at hx284_1)
         (try rw [show ((2 : Int)).toNat = 2 from rfl] at hx284_2)
         (try rw [show 2 * 3 = 6 from rfl] at hx284_2)
         replace p284 := eq_true p284
         replace q284 := eq_true q284
         have p285 : 0 ≤ (3 : Int) := (by omega)
         have q285 : 3 < (t276.length : Int) := of_decide_eq_true (by first | (with_reducible assumption) | assumption)
         obtain ⟨ad285, e285, hx285_0, hx285_1, hx285_2⟩ := at_T51 (Kd.R_reads' HO279.out).2.2 3 p285 q285
         obtain rfl : ad280 = ad285 := (by injection e285)
         (try simp only [show (3 : Int).toNat = 3 from rfl, Nat.reduceMul, Nat.reduceEqDiff, Go.Addr.add, ↓reduceIte] at hx285_0)
         (try simp only [show (3 : Int).toNat = 3 from rfl, Nat.reduceMul, Nat.reduceEqDiff, Go.Addr.add, ↓reduceIte] at hx285_1)
         (try simp only [show (3 : Int).toNat = 3 from rfl, Nat.reduceMul, Nat.reduceEqDiff, Go.Addr.add, ↓reduceIte] at hx285_2)
         have qi285 : (3 < t276.length) = True := eq_true (by omega)
         (try rw [show ((3 : Int)).toNat = 3 from rfl] at hx285_0)
         (try rw [show 3 * 3 = 9 from rfl] at hx285_0)
         (try rw [show ((3 : Int)).toNat = 3 from rfl] at hx285_1)
         (try rw [show 3 * 3 = 9 from rfl] at hx285_1)
         (try rw [show ((3 : Int)).toNat = 3 from rfl] at hx285_2)
         (try rw [show 3 * 3 = 9 from rfl] at hx285_2)
         replace p285 := eq_true p285
         replace q285 := eq_true q285
         have p286 : 0 ≤ (4 : Int) := (by omega)
         have q286 : 4 < (t276.length : Int) := of_decide_eq_true (by first | (with_reducible assumption) | assumption)
         obtain ⟨ad286, e286, hx286_0, hx286_1, hx286_2⟩ := at_T51 (Kd.R_reads' HO279.out).2.2 4 p286 q286
         obtain rfl : ad280 = ad286 := (by injection e286)
         (try simp only [show (4 : Int).toNat = 4 from rfl, Nat.reduceMul, Nat.reduceEqDiff, Go.Addr.add, ↓reduceIte] at hx286_0)
         (try simp only [show (4 : Int).toNat = 4 from rfl, Nat.reduceMul, Nat.reduceEqDiff, Go.Addr.add, ↓reduceIte] at hx286_1)
         (try simp only [show (4 : Int).toNat = 4 from rfl, Nat.reduceMul, Nat.reduceEqDiff, Go.Addr.add, ↓reduceIte] at hx286_2)
         have qi286 : (4 < t276.length) = True := eq_true (by omega)
         (try rw [show ((4 : Int)).toNat = 4 from rfl] at hx286_0)
         (try rw [show 4 * 3 = 12 from rfl] at hx286_0)
         (try rw [show ((4 : Int)).toNat = 4 from rfl] at hx286_1)
         (try rw [show 4 * 3 = 12 from rfl] at hx286_1)
         (try rw [show ((4 : Int)).toNat = 4 from rfl] at hx286_2)
         (try rw [show 4 * 3 = 12 from rfl] at hx286_2)
         replace p286 := eq_true p286
         replace q286 := eq_true q286
         refine start_ (n := 29) (S := fun w' => w'.cell? ad280 = some (.int .i64 ((rd_T51 t276 0).f0)) ∧ w'.cell? ⟨ad280.block, ad280.off + 1, none⟩ = some (.int .u64 ((rd_T51 t276 0).f1)) ∧ w'.cell? ⟨ad280.block, ad280.off + 2, none⟩ = some (.string ((rd_T51 t276 0).f2)) ∧ w'.cell? ⟨ad280.block, ad280.off + 3, none⟩ = some (.int .i64 ((rd_T51 t276 1).f0)) ∧ w'.cell? ⟨ad280.block, ad280.off + 3 + 1, none⟩ = some (.int .u64 ((rd_T51 t276 1).f1)) ∧ w'.cell? ⟨ad280.block, ad280.off + 3 + 2, none⟩ = some (.string ((rd_T51 t276 1).f2)) ∧ w'.cell? ⟨ad280.block, ad280.off + 6, none⟩ = some (.int .i64 ((rd_T51 t276 2).f0)) ∧ w'.cell? ⟨ad280.block, ad280.off + 6 + 1, none⟩ = some (.int .u64 ((rd_T51 t276 2).f1)) ∧ w'.cell? ⟨ad280.block, ad280.off + 6 + 2, none⟩ = some (.string ((rd_T51 t276 2).f2)) ∧ w'.cell? ⟨ad280.block, ad280.off + 9, none⟩ = some (.int .i64 ((rd_T51 t276 3).f0)) ∧ w'.cell? ⟨ad280.block, ad280.off + 9 + 1, none⟩ = some (.int .u64 ((rd_T51 t276 3).f1)) ∧ w'.cell? ⟨ad280.block, ad280.off + 9 + 2, none⟩ = some (.string ((rd_T51 t276 3).f2)) ∧ w'.cell? ⟨ad280.block, ad280.off + 12, none⟩ = some (.int .i64 ((rd_T51 t276 4).f0)) ∧ w'.cell? ⟨ad280.block, ad280.off + 12 + 1, none⟩ = some (.int .u64 ((rd_T51 t276 4).f1)) ∧ w'.cell? ⟨ad280.block, ad280.off + 12 + 2, none⟩ = some (.string ((rd_T51 t276 4).f2))) (ds := []) #[false, false, false, false, false, false, false, false, false, false, false, false, false, false, false, false, false, false, false, false, false, false, false, false, false, false, false, false, false] (by kernel_rfl) rfl rfl ⟨hx282_0, hx282_1, hx282_2, hx283_0, hx283_1, hx283_2, hx284_0, hx284_1, hx284_2, hx285_0, hx285_1, hx285_2, hx286_0, hx286_1, hx286_2⟩ (fun hHeld => ?_); refine with_tabW acceptor_Decode.tab6 acceptor_Decode.bits6 (fun HT_ HW_ => ?_)
         generalize w36.drew = w38 at HO279 BK275 HB hx282_0 hx282_1 hx282_2 hx283_0 hx283_1 hx283_2 hx284_0 hx284_1 hx284_2 hx285_0 hx285_1 hx285_2 hx286_0 hx286_1 hx286_2 hHeld ⊢
         refine pure_ (i := 0) (N := some 27) (v := ?_) (a' := ?_) #[true, false, false, false, false, false, false, false, false, false, false, false, false, false, false, false, false, false, false, false, false, false, false, false, false, false, false, false, false] rfl rfl (any_of HT_.out (by kernel_rfl)) (fun _ _ _ h => h) (Or.inl ⟨by rfl, ?_⟩) ?_ ?_
         rotate_left
         ·intro w'
          go_simp
          with_reducible rfl
         rotate_left
         ·simp only [Act.put, sl1, sl2, sl3, i64_w, i32_w]
          rfl
         refine pure_ (i := 1) (N := some 28) (v := ?_) (a' := ?_) #[true, true, false, false, false, false, false, false, false, false, false, false, false, false, false, false, false, false, false, false, false, false, false, false, false, false, false, false, false] rfl rfl (any_of HT_.out (by kernel_rfl)) (fun _ _ _ h => h) (Or.inl ⟨by rfl, ?_⟩) ?_ ?_
         rotate_left
         ·intro w'
          go_simp
          with_reducible rfl
         rotate_left
         ·simp only [Act.put, sl1, sl2, sl3, i64_w, i32_w]
          rfl
         refine pure_ (i := 2) (N := some 29) (v := ?_) (a' := ?_) #[true, true, true, false, false, false, false, false, false, false, false, false, false, false, false, false, false, false, false, false, false, false, false, false, false, false, false, false, false] rfl rfl (any_of HT_.out (by kernel_rfl)) (fun _ _ _ h => h) (Or.inl ⟨by rfl, ?_⟩) ?_ ?_
         rotate_left
         ·intro w'
          go_simp
          with_reducible rfl
         rotate_left
         ·simp only [Act.put, sl1, sl2, sl3, i64_w, i32_w]
          rfl
         refine pure_ (i := 5) (N := some 32) (v := ?_) (a' := ?_) #[true, true, true, false, false, true, false, false, false, false, false, false, false, false, false, false, false, false, false, false, false, false, false, false, false, false, false, false, false] rfl rfl (any_of HT_.out (by kernel_rfl)) (fun _ _ _ h => h) (Or.inl ⟨by rfl, ?_⟩) ?_ ?_
         rotate_left
         ·intro w'
          go_simp
          with_reducible rfl
         rotate_left
         ·simp only [Act.put, sl1, sl2, sl3, i64_w, i32_w]
          rfl
         refine pure_ (i := 6) (N := some 33) (v := ?_) (a' := ?_) #[true, true, true, false, false, true, true, false, false, false, false, false, false, false, false, false, false, false, false, false, false, false, false, false, false, false, false, false, false] rfl rfl (any_of HT_.out (by kernel_rfl)) (fun _ _ _ h => h) (Or.inl ⟨by rfl, ?_⟩) ?_ ?_
         rotate_left
         ·intro w'
          go_simp
          with_reducible rfl
         rotate_left
         ·simp only [Act.put, sl1, sl2, sl3, i64_w, i32_w]
          rfl
         refine pure_ (i := 7) (N := some 34) (v := ?_) (a' := ?_) #[true, true, true, false, false, true, true, true, false, false, false, false, false, false, false, false, false, false, false, false, false, false, false, false, false, false, false, false, false] rfl rfl (any_of HT_.out (by kernel_rfl)) (fun _ _ _ h => h) (Or.inl ⟨by rfl, ?_⟩) ?_ ?_
         rotate_left
         ·intro w'
          go_simp
          with_reducible rfl
         rotate_left
         ·simp only [Act.put, sl1, sl2, sl3, i64_w, i32_w]
          rfl
         refine pure_ (i := 11) (N := some 38) (v := ?_) (a' := ?_) #[true, true, true, false, false, true, true, true, false, false, false, true, false, false, false, false, false, false, false, false, false, false, false, false, false, false, false, false, false] rfl rfl (any_of HT_.out (by kernel_rfl)) (fun _ _ _ h => h) (Or.inl ⟨by rfl, ?_⟩) ?_ ?_
         rotate_left
         ·intro w'
          go_simp
          with_reducible rfl
         rotate_left
         ·simp only [Act.put, sl1, sl2, sl3, i64_w, i32_w]
          rfl
         refine pure_ (i := 12) (N := some 39) (v := ?_) (a' := ?_) #[true, true, true, false, false, true, true, true, false, false, false, true, true, false, false, false, false, false, false, false, false, false, false, false, false, false, false, false, false] rfl rfl (any_of HT_.out (by kernel_rfl)) (fun _ _ _ h => h) (Or.inl ⟨by rfl, ?_⟩) ?_ ?_
         rotate_left
         ·intro w'
          go_simp
          with_reducible rfl
         rotate_left
         ·simp only [Act.put, sl1, sl2, sl3, i64_w, i32_w]
          rfl
         refine pure_ (i := 13) (N := some 40) (v := ?_) (a' := ?_) #[true, true, true, false, false, true, true, true, false, false, false, true, true, true, false, false, false, false, false, false, false, false, false, false, false, false, false, false, false] rfl rfl (any_of HT_.out (by kernel_rfl)) (fun _ _ _ h => h) (Or.inl ⟨by rfl, ?_⟩) ?_ ?_
         rotate_left
         ·intro w'
          go_simp
          with_reducible rfl
         rotate_left
         ·simp only [Act.put, sl1, sl2, sl3, i64_w, i32_w]
          rfl
         refine pure_ (i := 16) (N := some 43) (v := ?_) (a' := ?_) #[true, true, true, false, false, true, true, true, false, false, false, true, true, true, false, false, true, false, false, false, false, false, false, false, false, false, false, false, false] rfl rfl (any_of HT_.out (by kernel_rfl)) (fun _ _ _ h => h) (Or.inl ⟨by rfl, ?_⟩) ?_ ?_
         rotate_left
         ·intro w'
          go_simp
          with_reducible rfl
         rotate_left
         ·simp only [Act.put, sl1, sl2, sl3, i64_w, i32_w]
          rfl
         refine pure_ (i := 17) (N := some 44) (v := ?_) (a' := ?_) #[true, true, true, false, false, true, true, true, false, false, false, true, true, true, false, false, true, true, false, false, false, false, false, false, false, false, false, false, false] rfl rfl (any_of HT_.out (by kernel_rfl)) (fun _ _ _ h => h) (Or.inl ⟨by rfl, ?_⟩) ?_ ?_
         rotate_left
         ·intro w'
          go_simp
          with_reducible rfl
         rotate_left
         ·simp only [Act.put, sl1, sl2, sl3, i64_w, i32_w]
          rfl
         refine pure_ (i := 18) (N := some 45) (v := ?_) (a' := ?_) #[true, true, true, false, false, true, true, true, false, false, false, true, true, true, false, false, true, true, true, false, false, false, false, false, false, false, false, false, false] rfl rfl (any_of HT_.out (by kernel_rfl)) (fun _ _ _ h => h) (Or.inl ⟨by rfl, ?_⟩) ?_ ?_
         rotate_left
         ·intro w'
          go_simp
          with_reducible rfl
         rotate_left
         ·simp only [Act.put, sl1, sl2, sl3, i64_w, i32_w]
          rfl
         refine pure_ (i := 22) (N := some 49) (v := ?_) (a' := ?_) #[true, true, true, false, false, true, true, true, false, false, false, true, true, true, false, false, true, true, true, false, false, false, true, false, false, false, false, false, false] rfl rfl (any_of HT_.out (by kernel_rfl)) (fun _ _ _ h => h) (Or.inl ⟨by rfl, ?_⟩) ?_ ?_
         rotate_left
         ·intro w'
          go_simp
          with_reducible rfl
         rotate_left
         ·simp only [Act.put, sl1, sl2, sl3, i64_w, i32_w]
          rfl
         refine pure_ (i := 23) (N := some 50) (v := ?_) (a' := ?_) #[true, true, true, false, false, true, true, true, false, false, false, true, true, true, false, false, true, true, true, false, false, false, true, true, false, false, false, false, false] rfl rfl (any_of HT_.out (by kernel_rfl)) (fun _ _ _ h => h) (Or.inl ⟨by rfl, ?_⟩) ?_ ?_
         rotate_left
         ·intro w'
          go_simp
          with_reducible rfl
         rotate_left
         ·simp only [Act.put, sl1, sl2, sl3, i64_w, i32_w]
          rfl
         refine pure_ (i := 24) (N := some 51) (v := ?_) (a' := ?_) #[true, true, true, false, false, true, true, true, false, false, false, true, true, true, false, false, true, true, true, false, false, false, true, true, true, false, false, false, false] rfl rfl (any_of HT_.out (by kernel_rfl)) (fun _ _ _ h => h) (Or.inl ⟨by rfl, ?_⟩) ?_ ?_
         rotate_left
         ·intro w'
          go_simp
          with_reducible rfl
         rotate_left
         ·simp only [Act.put, sl1, sl2, sl3, i64_w, i32_w]
          rfl
         refine take_ (i := 3) (N := some 30) (v := ?_) (a' := ?_) #[true, true, true, true, false, true, true, true, false, false, false, true, true, true, false, false, true, true, true, false, false, false, true, true, true, false, false, false, false] rfl rfl (take_ofW HT_.out HW_.out (by kernel_rfl)) (fun _ _ _ h => h) (Or.inl ⟨by rfl, ?_⟩) hHeld ?_ ?_
         rotate_left
         ·rintro w' ⟨s0, s1, s2, s3, s4, s5, s6, s7, s8, s9, s10, s11, s12, s13, s14⟩
          go_simp
          with_reducible rfl
         rotate_left
         ·simp only [Act.put, sl1, sl2, sl3, i64_w, i32_w]
          rfl
         refine pure_ (i := 4) (N := some 31) (v := ?_) (a' := ?_) #[true, true, true, true, true, true, true, true, false, false, false, true, true, true, false, false, true, true, true, false, false, false, true, true, true, false, false, false, false] rfl rfl (any_of HT_.out (by kernel_rfl)) (fun _ _ _ h => h) (Or.inl ⟨by rfl, ?_⟩) ?_ ?_
         rotate_left
         ·intro w'
          go_simp
          with_reducible rfl
         rotate_left
         ·simp only [Act.put, sl1, sl2, sl3, i64_w, i32_w]
          rfl
         refine take_ (i := 8) (N := some 35) (v := ?_) (a' := ?_) #[true, true, true, true, true, true, true, true, true, false, false, true, true, true, false, false, true, true, true, false, false, false, true, true, true, false, false, false, false] rfl rfl (take_ofW HT_.out HW_.out (by kernel_rfl)) (fun _ _ _ h => h) (Or.inl ⟨by rfl, ?_⟩) hHeld ?_ ?_
         rotate_left
         ·rintro w' ⟨s0, s1, s2, s3, s4, s5, s6, s7, s8, s9, s10, s11, s12, s13, s14⟩
          go_simp
          with_reducible rfl
         rotate_left
         ·simp only [Act.put, sl1, sl2, sl3, i64_w, i32_w]
          rfl
         refine pure_ (i := 9) (N := some 36) (v := ?_) (a' := ?_) #[true, true, true, true, true, true, true, true, true, true, false, true, true, true, false, false, true, true, true, false, false, false, true, true, true, false, false, false, false] rfl rfl (any_of HT_.out (by kernel_rfl)) (fun _ _ _ h => h) (Or.inl ⟨by rfl, ?_⟩) ?_ ?_
         rotate_left
         ·intro w'
          go_simp
          with_reducible rfl
         rotate_left
         ·simp only [Act.put, sl1, sl2, sl3, i64_w, i32_w]
          rfl
         refine pure_ (i := 10) (N := some 37) (v := ?_) (a' := ?_) #[true, true, true, true, true, true, true, true, true, true, true, true, true, true, false, false, true, true, true, false, false, false, true, true, true, false, false, false, false] rfl rfl (any_of HT_.out (by kernel_rfl)) (fun _ _ _ h => h) (Or.inl ⟨by rfl, ?_⟩) ?_ ?_
         rotate_left
         ·intro w'
          go_simp
          with_reducible rfl
         rotate_left
         ·simp only [Act.put, sl1, sl2, sl3, i64_w, i32_w]
          rfl
         refine take_ (i := 14) (N := some 41) (v := ?_) (a' := ?_) #[true, true, true, true, true, true, true, true, true, true, true, true, true, true, true, false, true, true, true, false, false, false, true, true, true, false, false, false, false] rfl rfl (take_ofW HT_.out HW_.out (by kernel_rfl)) (fun _ _ _ h => h) (Or.inl ⟨by rfl, ?_⟩) hHeld ?_ ?_
         rotate_left
         ·rintro w' ⟨s0, s1, s2, s3, s4, s5, s6, s7, s8, s9, s10, s11, s12, s13, s14⟩
          go_simp
          with_reducible rfl
         rotate_left
         ·simp only [Act.put, sl1, sl2, sl3, i64_w, i32_w]
          rfl
         refine pure_ (i := 15) (N := some 42) (v := ?_) (a' := ?_) #[true, true, true, true, true, true, true, true, true, true, true, true, true, true, true, true, true, true, true, false, false, false, true, true, true, false, false, false, false] rfl rfl (any_of HT_.out (by kernel_rfl)) (fun _ _ _ h => h) (Or.inl ⟨by rfl, ?_⟩) ?_ ?_
         rotate_left
         ·intro w'
          go_simp
          with_reducible rfl
         rotate_left
         ·simp only [Act.put, sl1, sl2, sl3, i64_w, i32_w]
          rfl
         refine take_ (i := 19) (N := some 46) (v := ?_) (a' := ?_) #[true, true, true, true, true, true, true, true, true, true, true, true, true, true, true, true, true, true, true, true, false, false, true, true, true, false, false, false, false] rfl rfl (take_ofW HT_.out HW_.out (by kernel_rfl)) (fun _ _ _ h => h) (Or.inl ⟨by rfl, ?_⟩) hHeld ?_ ?_
         rotate_left
         ·rintro w' ⟨s0, s1, s2, s3, s4, s5, s6, s7, s8, s9, s10, s11, s12, s13, s14⟩
          go_simp
          with_reducible rfl
         rotate_left
         ·simp only [Act.put, sl1, sl2, sl3, i64_w, i32_w]
          rfl
         refine pure_ (i := 20) (N := some 47) (v := ?_) (a' := ?_) #[true, true, true, true, true, true, true, true, true, true, true, true, true, true, true, true, true, true, true, true, true, false, true, true, true, false, false, false, false] rfl rfl (any_of HT_.out (by kernel_rfl)) (fun _ _ _ h => h) (Or.inl ⟨by rfl, ?_⟩) ?_ ?_
         rotate_left
         ·intro w'
          go_simp
          with_reducible rfl
         rotate_left
         ·simp only [Act.put, sl1, sl2, sl3, i64_w, i32_w]
          rfl
         refine pure_ (i := 21) (N := some 48) (v := ?_) (a' := ?_) #[true, true, true, true, true, true, true, true, true, true, true, true, true, true, true, true, true, true, true, true, true, true, true, true, true, false, false, false, false] rfl rfl (any_of HT_.out (by kernel_rfl)) (fun _ _ _ h => h) (Or.inl ⟨by rfl, ?_⟩) ?_ ?_
         rotate_left
         ·intro w'
          go_simp
          with_reducible rfl
         rotate_left
         ·simp only [Act.put, sl1, sl2, sl3, i64_w, i32_w]
          rfl
         refine take_ (i := 25) (N := some 52) (v := ?_) (a' := ?_) #[true, true, true, true, true, true, true, true, true, true, true, true, true, true, true, true, true, true, true, true, true, true, true, true, true, true, false, false, false] rfl rfl (take_ofW HT_.out HW_.out (by kernel_rfl)) (fun _ _ _ h => h) (Or.inl ⟨by rfl, ?_⟩) hHeld ?_ ?_
         rotate_left
         ·rintro w' ⟨s0, s1, s2, s3, s4, s5, s6, s7, s8, s9, s10, s11, s12, s13, s14⟩
          go_simp
          with_reducible rfl
         rotate_left
         ·simp only [Act.put, sl1, sl2, sl3, i64_w, i32_w]
          rfl
         refine pure_ (i := 26) (N := some 53) (v := ?_) (a' := ?_) #[true, true, true, true, true, true, true, true, true, true, true, true, true, true, true, true, true, true, true, true, true, true, true, true, true, true, true, false, false] rfl rfl (any_of HT_.out (by kernel_rfl)) (fun _ _ _ h => h) (Or.inl ⟨by rfl, ?_⟩) ?_ ?_
         rotate_left
         ·intro w'
          go_simp
          with_reducible rfl
         rotate_left
         ·simp only [Act.put, sl1, sl2, sl3, i64_w, i32_w]
          rfl
         refine one_ (i := 27) (N := some 6) #[true, true, true, true, true, true, true, true, true, true, true, true, true, true, true, true, true, true, true, true, true, true, true, true, true, true, true, true, false] rfl rfl (one_of HT_.out (by kernel_rfl)) (by decide) (fun K hK => ?_)
         refine box_step ?hg (N := 6) ?hd (cs := #[.int .i64 0, .int .i64 0, .int .i64 0, .int .i64 0, .string (⟨#[]⟩ : ByteArray)]) (t := 25) ?hr ?_; (case hd => rfl); (case hg => rfl); (case hr => first | (go_simp; done) | (go_simp; rfl))
         intro gb287 hg w39 hbox hb
         have HS0_ := (hb.cell (World.block_lt_of_cell? _ _ (hHeld.1))).trans (hHeld.1)
         have HS1_ := (hb.cell (World.block_lt_of_cell? _ _ (hHeld.2.1))).trans (hHeld.2.1)
         have HS2_ := (hb.cell (World.block_lt_of_cell? _ _ (hHeld.2.2.1))).trans (hHeld.2.2.1)
         have HS3_ := (hb.cell (World.block_lt_of_cell? _ _ (hHeld.2.2.2.1))).trans (hHeld.2.2.2.1)
         have HS4_ := (hb.cell (World.block_lt_of_cell? _ _ (hHeld.2.2.2.2.1))).trans (hHeld.2.2.2.2.1)
         have HS5_ := (hb.cell (World.block_lt_of_cell? _ _ (hHeld.2.2.2.2.2.1))).trans (hHeld.2.2.2.2.2.1)
         have HS6_ := (hb.cell (World.block_lt_of_cell? _ _ (hHeld.2.2.2.2.2.2.1))).trans (hHeld.2.2.2.2.2.2.1)
         have HS7_ := (hb.cell (World.block_lt_of_cell? _ _ (hHeld.2.2.2.2.2.2.2.1))).trans (hHeld.2.2.2.2.2.2.2.1)
         have HS8_ := (hb.cell (World.block_lt_of_cell? _ _ (hHeld.2.2.2.2.2.2.2.2.1))).trans (hHeld.2.2.2.2.2.2.2.2.1)
         have HS9_ := (hb.cell (World.block_lt_of_cell? _ _ (hHeld.2.2.2.2.2.2.2.2.2.1))).trans (hHeld.2.2.2.2.2.2.2.2.2.1)
         have HS10_ := (hb.cell (World.block_lt_of_cell? _ _ (hHeld.2.2.2.2.2.2.2.2.2.2.1))).trans (hHeld.2.2.2.2.2.2.2.2.2.2.1)
         have HS11_ := (hb.cell (World.block_lt_of_cell? _ _ (hHeld.2.2.2.2.2.2.2.2.2.2.2.1))).trans (hHeld.2.2.2.2.2.2.2.2.2.2.2.1)
         have HS12_ := (hb.cell (World.block_lt_of_cell? _ _ (hHeld.2.2.2.2.2.2.2.2.2.2.2.2.1))).trans (hHeld.2.2.2.2.2.2.2.2.2.2.2.2.1)
         have HS13_ := (hb.cell (World.block_lt_of_cell? _ _ (hHeld.2.2.2.2.2.2.2.2.2.2.2.2.2.1))).trans (hHeld.2.2.2.2.2.2.2.2.2.2.2.2.2.1)
         have HS14_ := (hb.cell (World.block_lt_of_cell? _ _ (hHeld.2.2.2.2.2.2.2.2.2.2.2.2.2.2))).trans (hHeld.2.2.2.2.2.2.2.2.2.2.2.2.2.2)
         have n0_ := Aside0.mk (Kd.R_below (by (with_reducible repeat (first | apply Kd.R_alloc | apply Kd.R_drewN | apply Kd.R_drew)); exact HO279.out) hb)
         have n1_ := Aside0.mk (nb BK275.out hb)
         have n2_ := Aside0.mk (below_step bw hb)
         have n3_ := Aside0.mk (hbox)
         have n4_ := Aside0.mk ((g1 hg bw : w.heap.size ≤ gb287))
         have n5_ := Aside0.mk ((g1 hg bw : w.heap.size ≤ gb287))
         have n6_ := Aside0.mk ((n1 hg BK275.out : gb275 ≠ gb287))
         have n7_ := Aside0.mk ((n2 hg BK275.out : gb287 ≠ gb275))
         clear HO279
         clear BK275
         clear HB
         have HO279 := n0_
         have BK275 := n1_
         have HB := n2_
         have BK287 := n3_
         have GW287 := n4_
         have GE287 := n5_
         have NB275_287 := n6_
         have NB287_275 := n7_
         clear n0_ n1_ n2_ n3_ n4_ n5_ n6_ n7_
         clear hb hbox hg
         refine hK.out _ _ ⟨HS0_, HS1_, HS2_, HS3_, HS4_, HS5_, HS6_, HS7_, HS8_, HS9_, HS10_, HS11_, HS12_, HS13_, HS14_⟩ (fun hHeld => ?_)
         clear hK K
         refine norm_ (a' := ?_) ?_ ?_
         rotate_left
         ·show Act.put _ (some 6) _ = _
          simp only [Act.put, sl1, sl2, sl3, i64_w, i32_w]
          rfl
         refine one_ (i := 28) (N := none) #[true, true, true, true, true, true, true, true, true, true, true, true, true, true, true, true, true, true, true, true, true, true, true, true, true, true, true, true, true] rfl rfl (one_of HT_.out (by kernel_rfl)) (by decide) (fun K hK => ?_)
         have hs40 : w39.cell? ⟨gb287, 0, none⟩ = some (.int .i64 0) := (blk_cell BK287.out 0).trans rfl
         have hfs40 := blk_frozen BK287.out 0
         have hns40_0 := NB275_287.out
         have hms40_0 := NB287_275.out
         have hs41 : w39.cell? ⟨gb287, 1, none⟩ = some (.int .i64 0) := (blk_cell BK287.out 1).trans rfl
         have hfs41 := blk_frozen BK287.out 1
         have hns41_0 := NB275_287.out
         have hms41_0 := NB287_275.out
         have hs42 : w39.cell? ⟨gb287, 2, none⟩ = some (.int .i64 0) := (blk_cell BK287.out 2).trans rfl
         have hfs42 := blk_frozen BK287.out 2
         have hns42_0 := NB275_287.out
         have hms42_0 := NB287_275.out
         have hs43 : w39.cell? ⟨gb287, 3, none⟩ = some (.int .i64 0) := (blk_cell BK287.out 3).trans rfl
         have hfs43 := blk_frozen BK287.out 3
         have hns43_0 := NB275_287.out
         have hms43_0 := NB287_275.out
         have hs44 : w39.cell? ⟨gb287, 4, none⟩ = some (.string (⟨#[]⟩ : ByteArray)) := (blk_cell BK287.out 4).trans rfl
         have hfs44 := blk_frozen BK287.out 4
         have hns44_0 := NB275_287.out
         have hms44_0 := NB287_275.out
         refine skip_ (w1 := ?_) (by rfl) rfl ?_ ?_
         rotate_left
         ·go_simp
          rfl
         refine hK.out _ _ ⟨((cf (p := ⟨gb287, _, none⟩) (Kd.own_blk (Kd.R_ne HO279.out BK287.out (by decide)))).trans (((cf (p := ⟨gb287, _, none⟩) (Kd.own_blk (Kd.R_ne HO279.out BK287.out (by decide)))).trans (((cf (p := ⟨gb287, _, none⟩) (Kd.own_blk (Kd.R_ne HO279.out BK287.out (by decide)))).trans (((cf (p := ⟨gb287, _, none⟩) (Kd.own_blk (Kd.R_ne HO279.out BK287.out (by decide)))).trans (((cf (p := ⟨gb287, _, none⟩) (Kd.own_blk (Kd.R_ne HO279.out BK287.out (by decide)))).trans (hHeld.1)))))))))), ((cf (p := ⟨gb287, _, none⟩) (Kd.own_blk (Kd.R_ne HO279.out BK287.out (by decide)))).trans (((cf (p := ⟨gb287, _, none⟩) (Kd.own_blk (Kd.R_ne HO279.out BK287.out (by decide)))).trans (((cf (p := ⟨gb287, _, none⟩) (Kd.own_blk (Kd.R_ne HO279.out BK287.out (by decide)))).trans (((cf (p := ⟨gb287, _, none⟩) (Kd.own_blk (Kd.R_ne HO279.out BK287.out (by decide)))).trans (((cf (p := ⟨gb287, _, none⟩) (Kd.own_blk (Kd.R_ne HO279.out BK287.out (by decide)))).trans (hHeld.2.1)))))))))), ((cf (p := ⟨gb287, _, none⟩) (Kd.own_blk (Kd.R_ne HO279.out BK287.out (by decide)))).trans (((cf (p := ⟨gb287, _, none⟩) (Kd.own_blk (Kd.R_ne HO279.out BK287.out (by decide)))).trans (((cf (p := ⟨gb287, _, none⟩) (Kd.own_blk (Kd.R_ne HO279.out BK287.out (by decide)))).trans (((cf (p := ⟨gb287, _, none⟩) (Kd.own_blk (Kd.R_ne HO279.out BK287.out (by decide)))).trans (((cf (p := ⟨gb287, _, none⟩) (Kd.own_blk (Kd.R_ne HO279.out BK287.out (by decide)))).trans (hHeld.2.2.1)))))))))), ((cf (p := ⟨gb287, _, none⟩) (Kd.own_blk (Kd.R_ne HO279.out BK287.out (by decide)))).trans (((cf (p := ⟨gb287, _, none⟩) (Kd.own_blk (Kd.R_ne HO279.out BK287.out (by decide)))).trans (((cf (p := ⟨gb287, _, none⟩) (Kd.own_blk (Kd.R_ne HO279.out BK287.out (by decide)))).trans (((cf (p := ⟨gb287, _, none⟩) (Kd.own_blk (Kd.R_ne HO279.out BK287.out (by decide)))).trans (((cf (p := ⟨gb287, _, none⟩) (Kd.own_blk (Kd.R_ne HO279.out BK287.out (by decide)))).trans (hHeld.2.2.2.1)))))))))), ((cf (p := ⟨gb287, _, none⟩) (Kd.own_blk (Kd.R_ne HO279.out BK287.out (by decide)))).trans (((cf (p := ⟨gb287, _, none⟩) (Kd.own_blk (Kd.R_ne HO279.out BK287.out (by decide)))).trans (((cf (p := ⟨gb287, _, none⟩) (Kd.own_blk (Kd.R_ne HO279.out BK287.out (by decide)))).trans (((cf (p := ⟨gb287, _, none⟩) (Kd.own_blk (Kd.R_ne HO279.out BK287.out (by decide)))).trans (((cf (p := ⟨gb287, _, none⟩) (Kd.own_blk (Kd.R_ne HO279.out BK287.out (by decide)))).trans (hHeld.2.2.2.2.1)))))))))), ((cf (p := ⟨gb287, _, none⟩) (Kd.own_blk (Kd.R_ne HO279.out BK287.out (by decide)))).trans (((cf (p := ⟨gb287, _, none⟩) (Kd.own_blk (Kd.R_ne HO279.out BK287.out (by decide)))).trans (((cf (p := ⟨gb287, _, none⟩) (Kd.own_blk (Kd.R_ne HO279.out BK287.out (by decide)))).trans (((cf (p := ⟨gb287, _, none⟩) (Kd.own_blk (Kd.R_ne HO279.out BK287.out (by decide)))).trans (((cf (p := ⟨gb287, _, none⟩) (Kd.own_blk (Kd.R_ne HO279.out BK287.out (by decide)))).trans (hHeld.2.2.2.2.2.1)))))))))), ((cf (p := ⟨gb287, _, none⟩) (Kd.own_blk (Kd.R_ne HO279.out BK287.out (by decide)))).trans (((cf (p := ⟨gb287, _, none⟩) (Kd.own_blk (Kd.R_ne HO279.out BK287.out (by decide)))).trans (((cf (p := ⟨gb287, _, none⟩) (Kd.own_blk (Kd.R_ne HO279.out BK287.out (by decide)))).trans (((cf (p := ⟨gb287, _, none⟩) (Kd.own_blk (Kd.R_ne HO279.out BK287.out (by decide)))).trans (((cf (p := ⟨gb287, _, none⟩) (Kd.own_blk (Kd.R_ne HO279.out BK287.out (by decide)))).trans (hHeld.2.2.2.2.2.2.1)))))))))), ((cf (p := ⟨gb287, _, none⟩) (Kd.own_blk (Kd.R_ne HO279.out BK287.out (by decide)))).trans (((cf (p := ⟨gb287, _, none⟩) (Kd.own_blk (Kd.R_ne HO279.out BK287.out (by decide)))).trans (((cf (p := ⟨gb287, _, none⟩) (Kd.own_blk (Kd.R_ne HO279.out BK287.out (by decide)))).trans (((cf (p := ⟨gb287, _, none⟩) (Kd.own_blk (Kd.R_ne HO279.out BK287.out (by decide)))).trans (((cf (p := ⟨gb287, _, none⟩) (Kd.own_blk (Kd.R_ne HO279.out BK287.out (by decide)))).trans (hHeld.2.2.2.2.2.2.2.1)))))))))), ((cf (p := ⟨gb287, _, none⟩) (Kd.own_blk (Kd.R_ne HO279.out BK287.out (by decide)))).trans (((cf (p := ⟨gb287, _, none⟩) (Kd.own_blk (Kd.R_ne HO279.out BK287.out (by decide)))).trans (((cf (p := ⟨gb287, _, none⟩) (Kd.own_blk (Kd.R_ne HO279.out BK287.out (by decide)))).trans (((cf (p := ⟨gb287, _, none⟩) (Kd.own_blk (Kd.R_ne HO279.out BK287.out (by decide)))).trans (((cf (p := ⟨gb287, _, none⟩) (Kd.own_blk (Kd.R_ne HO279.out BK287.out (by decide)))).trans (hHeld.2.2.2.2.2.2.2.2.1)))))))))), ((cf (p := ⟨gb287, _, none⟩) (Kd.own_blk (Kd.R_ne HO279.out BK287.out (by decide)))).trans (((cf (p := ⟨gb287, _, none⟩) (Kd.own_blk (Kd.R_ne HO279.out BK287.out (by decide)))).trans (((cf (p := ⟨gb287, _, none⟩) (Kd.own_blk (Kd.R_ne HO279.out BK287.out (by decide)))).trans (((cf (p := ⟨gb287, _, none⟩) (Kd.own_blk (Kd.R_ne HO279.out BK287.out (by decide)))).trans (((cf (p := ⟨gb287, _, none⟩) (Kd.own_blk (Kd.R_ne HO279.out BK287.out (by decide)))).trans (hHeld.2.2.2.2.2.2.2.2.2.1)))))))))), ((cf (p := ⟨gb287, _, none⟩) (Kd.own_blk (Kd.R_ne HO279.out BK287.out (by decide)))).trans (((cf (p := ⟨gb287, _, none⟩) (Kd.own_blk (Kd.R_ne HO279.out BK287.out (by decide)))).trans (((cf (p := ⟨gb287, _, none⟩) (Kd.own_blk (Kd.R_ne HO279.out BK287.out (by decide)))).trans (((cf (p := ⟨gb287, _, none⟩) (Kd.own_blk (Kd.R_ne HO279.out BK287.out (by decide)))).trans (((cf (p := ⟨gb287, _, none⟩) (Kd.own_blk (Kd.R_ne HO279.out BK287.out (by decide)))).trans (hHeld.2.2.2.2.2.2.2.2.2.2.1)))))))))), ((cf (p := ⟨gb287, _, none⟩) (Kd.own_blk (Kd.R_ne HO279.out BK287.out (by decide)))).trans (((cf (p := ⟨gb287, _, none⟩) (Kd.own_blk (Kd.R_ne HO279.out BK287.out (by decide)))).trans (((cf (p := ⟨gb287, _, none⟩) (Kd.own_blk (Kd.R_ne HO279.out BK287.out (by decide)))).trans (((cf (p := ⟨gb287, _, none⟩) (Kd.own_blk (Kd.R_ne HO279.out BK287.out (by decide)))).trans (((cf (p := ⟨gb287, _, none⟩) (Kd.own_blk (Kd.R_ne HO279.out BK287.out (by decide)))).trans (hHeld.2.2.2.2.2.2.2.2.2.2.2.1)))))))))), ((cf (p := ⟨gb287, _, none⟩) (Kd.own_blk (Kd.R_ne HO279.out BK287.out (by decide)))).trans (((cf (p := ⟨gb287, _, none⟩) (Kd.own_blk (Kd.R_ne HO279.out BK287.out (by decide)))).trans (((cf (p := ⟨gb287, _, none⟩) (Kd.own_blk (Kd.R_ne HO279.out BK287.out (by decide)))).trans (((cf (p := ⟨gb287, _, none⟩) (Kd.own_blk (Kd.R_ne HO279.out BK287.out (by decide)))).trans (((cf (p := ⟨gb287, _, none⟩) (Kd.own_blk (Kd.R_ne HO279.out BK287.out (by decide)))).trans (hHeld.2.2.2.2.2.2.2.2.2.2.2.2.1)))))))))), ((cf (p := ⟨gb287, _, none⟩) (Kd.own_blk (Kd.R_ne HO279.out BK287.out (by decide)))).trans (((cf (p := ⟨gb287, _, none⟩) (Kd.own_blk (Kd.R_ne HO279.out BK287.out (by decide)))).trans (((cf (p := ⟨gb287, _, none⟩) (Kd.own_blk (Kd.R_ne HO279.out BK287.out (by decide)))).trans (((cf (p := ⟨gb287, _, none⟩) (Kd.own_blk (Kd.R_ne HO279.out BK287.out (by decide)))).trans (((cf (p := ⟨gb287, _, none⟩) (Kd.own_blk (Kd.R_ne HO279.out BK287.out (by decide)))).trans (hHeld.2.2.2.2.2.2.2.2.2.2.2.2.2.1)))))))))), ((cf (p := ⟨gb287, _, none⟩) (Kd.own_blk (Kd.R_ne HO279.out BK287.out (by decide)))).trans (((cf (p := ⟨gb287, _, none⟩) (Kd.own_blk (Kd.R_ne HO279.out BK287.out (by decide)))).trans (((cf (p := ⟨gb287, _, none⟩) (Kd.own_blk (Kd.R_ne HO279.out BK287.out (by decide)))).trans (((cf (p := ⟨gb287, _, none⟩) (Kd.own_blk (Kd.R_ne HO279.out BK287.out (by decide)))).trans (((cf (p := ⟨gb287, _, none⟩) (Kd.own_blk (Kd.R_ne HO279.out BK287.out (by decide)))).trans (hHeld.2.2.2.2.2.2.2.2.2.2.2.2.2.2))))))))))⟩ (fun hHeld => ?_)
         clear hK K
         refine done_ (done_of HT_.out (by kernel_rfl)) ?_
         have hnb45 := NB287_275.out
         have hnc45 := NB275_287.out
         have hcz46_0 := bc5_0 BK287.out
         have hcz46_1 := bc5_1 BK287.out
         have hcz46_2 := bc5_2 BK287.out
         have hcz46_3 := bc5_3 BK287.out
         have hcz46_4 := bc5_4 BK287.out
         have hfz46_0 := blk_frozen BK287.out 0
         have hfz46_1 := blk_frozen BK287.out 1
         have hfz46_2 := blk_frozen BK287.out 2
         have hfz46_3 := blk_frozen BK287.out 3
         have hfz46_4 := blk_frozen BK287.out 4
         try go_wp2_with (first | ((with_reducible refine gate_callee (f := 15) rfl ?_); refine goesL_ (some 55) rfl rfl Tryd.func15 (by kernel_rfl) rfl #[.agg #[.int .i64 (wrap64 ((rd_T51 t276 0).f1)), .int .i64 (wrap64 ((rd_T51 t276 1).f1)), .int .i64 (wrap64 ((rd_T51 t276 2).f1)), .int .i64 (wrap64 ((rd_T51 t276 3).f1)), .string ((rd_T51 t276 4).f2)]] rfl am ?_; (with_reducible refine (acceptor_right.calls (wrap64 ((rd_T51 t276 0).f1)) (wrap64 ((rd_T51 t276 1).f1)) (wrap64 ((rd_T51 t276 2).f1)) (wrap64 ((rd_T51 t276 3).f1)) ((rd_T51 t276 4).f2) false _ A16.out).mono ?_); rintro e w47 ⟨rfl, hb⟩; refine ⟨_, rfl, ?_⟩; have n0_ := Aside0.mk (Kd.R_below (by (with_reducible repeat (first | apply Kd.R_alloc | apply Kd.R_drewN | apply Kd.R_drew)); exact (Kd.R_mono (Kd.R_far (p := ⟨gb287, 4, none⟩) (Kd.R_far (p := ⟨gb287, 3, none⟩) (Kd.R_far (p := ⟨gb287, 2, none⟩) (Kd.R_far (p := ⟨gb287, 1, none⟩) (Kd.R_far (p := ⟨gb287, 0, none⟩) (Kd.R_types HO279.out BK287.out (by decide)) (fun _ hk => hk.2) (.int .i64 (wrap64 ((rd_T51 t276 0).f1)))) (fun _ hk => hk.2) (.int .i64 (wrap64 ((rd_T51 t276 1).f1)))) (fun _ hk => hk.2) (.int .i64 (wrap64 ((rd_T51 t276 2).f1)))) (fun _ hk => hk.2) (.int .i64 (wrap64 ((rd_T51 t276 3).f1)))) (fun _ hk => hk.2) (.string ((rd_T51 t276 4).f2))) (fun _ h_ => h_.1))) hb); have n1_ := Aside0.mk (blk_below (g := gb275) (o := .cells #[.int .i64 0, .int .i64 0, .int .i64 0, .int .i64 0, .string (⟨#[]⟩ : ByteArray)] 25 (0, 0)) (by (with_reducible repeat (first | refine blk_drewN ?_ _ | refine blk_drew ?_ | refine blk_alloc ?_ _ | refine blk_far ?_ NB275_287.out _)); exact BK275.out) hb); have n2_ := Aside0.mk (blk_below (g := gb287) (o := .cells #[.int .i64 (wrap64 ((rd_T51 t276 0).f1)), .int .i64 (wrap64 ((rd_T51 t276 1).f1)), .int .i64 (wrap64 ((rd_T51 t276 2).f1)), .int .i64 (wrap64 ((rd_T51 t276 3).f1)), .string ((rd_T51 t276 4).f2)] 25 (0, 0)) (by (with_reducible repeat (first | refine blk_drewN ?_ _ | refine blk_drew ?_ | refine blk_alloc ?_ _)); refine blk_put (cs := #[.int .i64 (wrap64 ((rd_T51 t276 0).f1)), .int .i64 (wrap64 ((rd_T51 t276 1).f1)), .int .i64 (wrap64 ((rd_T51 t276 2).f1)), .int .i64 (wrap64 ((rd_T51 t276 3).f1)), .string (⟨#[]⟩ : ByteArray)]) ?_ 4 _ rfl; (with_reducible repeat (first | refine blk_drewN ?_ _ | refine blk_drew ?_ | refine blk_alloc ?_ _)); refine blk_put (cs := #[.int .i64 (wrap64 ((rd_T51 t276 0).f1)), .int .i64 (wrap64 ((rd_T51 t276 1).f1)), .int .i64 (wrap64 ((rd_T51 t276 2).f1)), .int .i64 0, .string (⟨#[]⟩ : ByteArray)]) ?_ 3 _ rfl; (with_reducible repeat (first | refine blk_drewN ?_ _ | refine blk_drew ?_ | refine blk_alloc ?_ _)); refine blk_put (cs := #[.int .i64 (wrap64 ((rd_T51 t276 0).f1)), .int .i64 (wrap64 ((rd_T51 t276 1).f1)), .int .i64 0, .int .i64 0, .string (⟨#[]⟩ : ByteArray)]) ?_ 2 _ rfl; (with_reducible repeat (first | refine blk_drewN ?_ _ | refine blk_drew ?_ | refine blk_alloc ?_ _)); refine blk_put (cs := #[.int .i64 (wrap64 ((rd_T51 t276 0).f1)), .int .i64 0, .int .i64 0, .int .i64 0, .string (⟨#[]⟩ : ByteArray)]) ?_ 1 _ rfl; (with_reducible repeat (first | refine blk_drewN ?_ _ | refine blk_drew ?_ | refine blk_alloc ?_ _)); refine blk_put (cs := #[.int .i64 0, .int .i64 0, .int .i64 0, .int .i64 0, .string (⟨#[]⟩ : ByteArray)]) ?_ 0 _ rfl; (with_reducible repeat (first | refine blk_drewN ?_ _ | refine blk_drew ?_ | refine blk_alloc ?_ _)); exact BK287.out) hb); have n3_ := Aside0.mk (below_step bw hb); clear HO279; clear BK275; clear BK287; clear HB; have HO279 := n0_; have BK275 := n1_; have BK287 := n2_; have HB := n3_; clear n0_ n1_ n2_ n3_; (try clear hb); (try clear hb2); (try clear hk); (try clear hi); have hcz48_0 := bc5_0 BK275.out; have hcz48_1 := bc5_1 BK275.out; have hcz48_2 := bc5_2 BK275.out; have hcz48_3 := bc5_3 BK275.out; have hcz48_4 := bc5_4 BK275.out; have hfz48_0 := blk_frozen BK275.out 0; have hfz48_1 := blk_frozen BK275.out 1; have hfz48_2 := blk_frozen BK275.out 2; have hfz48_3 := blk_frozen BK275.out 3; have hfz48_4 := blk_frozen BK275.out 4))
         refine bodyPost_ret (results_ct rfl _ _ gb275 25 #[.int .i64 0, .int .i64 0, .int .i64 0, .int .i64 0, .string (⟨#[]⟩ : ByteArray)] (0, 0) _ rfl (by (with_reducible repeat (first | refine blk_drewN ?_ _ | refine blk_drew ?_ | refine blk_alloc ?_ _)); refine blk_put (cs := #[.int .i64 0, .int .i64 0, .int .i64 0, .int .i64 0, .string (⟨#[]⟩ : ByteArray)]) ?_ 4 _ rfl; (with_reducible repeat (first | refine blk_drewN ?_ _ | refine blk_drew ?_ | refine blk_alloc ?_ _)); refine blk_put (cs := #[.int .i64 0, .int .i64 0, .int .i64 0, .int .i64 0, .string (⟨#[]⟩ : ByteArray)]) ?_ 3 _ rfl; (with_reducible repeat (first | refine blk_drewN ?_ _ | refine blk_drew ?_ | refine blk_alloc ?_ _)); refine blk_put (cs := #[.int .i64 0, .int .i64 0, .int .i64 0, .int .i64 0, .string (⟨#[]⟩ : ByteArray)]) ?_ 2 _ rfl; (with_reducible repeat (first | refine blk_drewN ?_ _ | refine blk_drew ?_ | refine blk_alloc ?_ _)); refine blk_put (cs := #[.int .i64 0, .int .i64 0, .int .i64 0, .int .i64 0, .string (⟨#[]⟩ : ByteArray)]) ?_ 1 _ rfl; (with_reducible repeat (first | refine blk_drewN ?_ _ | refine blk_drew ?_ | refine blk_alloc ?_ _)); refine blk_put (cs := #[.int .i64 0, .int .i64 0, .int .i64 0, .int .i64 0, .string (⟨#[]⟩ : ByteArray)]) ?_ 0 _ rfl; (with_reducible repeat (first | refine blk_drewN ?_ _ | refine blk_drew ?_ | refine blk_alloc ?_ _)); exact BK275.out) Tryd.underlying25 rfl (by kernel_rfl)) rfl ?_
         exact ⟨by first | rfl | (simp [errW_none, errW_some] <;> rfl) | (simp only [← hji6]; first | rfl | (simp [errW_none, errW_some] <;> rfl)) | (simp [*, errW_none, errW_some] <;> first | rfl | (generalize ByteArray.toList _ = l_; cases l_ <;> rfl)), bw⟩
       ·rw [if_neg c15] at H
        exact absurd H (by simp)
      ·rw [if_neg c14] at H
       exact absurd H (by simp)
     ·rw [if_neg c13] at H
      exact absurd H (by simp)
   ·rw [if_neg c5] at H
    exact absurd H (by simp)
  ·rw [if_neg c4] at H
   exact absurd H (by simp)
 ·rw [if_neg c3] at H
  have c3b0 : (t277 == 0) = false := beq_eq_false_iff_ne.mpr c3
  have c3b1 : (t277 != 0) = true := bne_iff_ne.mpr c3
  simp only [Option.some.injEq, Prod.mk.injEq] at H
  obtain ⟨rfl, rfl, rfl, rfl, rfl, rfl⟩ := H
  go_enter Tryd.func9, Tryd.ntmps9
  go_wp2_with (first | ((with_reducible refine gate_dst (N := 2) rfl ?_); refine box_event ?hg (N := 2) ?hd (cs := #[.int .i64 0, .int .i64 0, .int .i64 0, .int .i64 0, .string (⟨#[]⟩ : ByteArray)]) (t := 25) ?hr ?_; (case hd => rfl); (case hg => rfl); (case hr => first | (go_simp; done) | (go_simp; rfl)); intro gb275 hg w49 hbox hb; have n0_ := Aside0.mk (below_step bw hb); have n1_ := Aside0.mk (hbox); have n2_ := Aside0.mk ((g1 hg bw : w.heap.size ≤ gb275)); have n3_ := Aside0.mk ((g1 hg bw : w.heap.size ≤ gb275)); clear HB; have HB := n0_; have BK275 := n1_; have GW275 := n2_; have GE275 := n3_; clear n0_ n1_ n2_ n3_; clear hb hbox hg) | ((with_reducible refine gate_callee (f := 19) rfl ?_); refine goesL_ (some 9) rfl rfl Tryd.func19 (by kernel_rfl) rfl #[.string (⟨#[108, 98, 108, 98, 116]⟩ : ByteArray), .string a0] rfl am ?_; (with_reducible refine (codec_Decode.calls k (⟨#[108, 98, 108, 98, 116]⟩ : ByteArray) a0 t276 t277 _ tbk A2.out).mono ?_); rintro e w50 ⟨v278, rfl, ho0, hb⟩; refine ⟨_, rfl, ?_⟩; have n0_ := Aside0.mk (Kd.R_lower ho0 (below_size bw)); have n1_ := Aside0.mk (nb BK275.out hb); have n2_ := Aside0.mk (below_step bw hb); clear BK275; clear HB; have HO279 := n0_; have BK275 := n1_; have HB := n2_; clear n0_ n1_ n2_; (try clear hb); (try clear hb2); (try clear hk); (try clear hi); (try clear ho0); have hcz51_0 := bc5_0 BK275.out; have hcz51_1 := bc5_1 BK275.out; have hcz51_2 := bc5_2 BK275.out; have hcz51_3 := bc5_3 BK275.out; have hcz51_4 := bc5_4 BK275.out; have hfz51_0 := blk_frozen BK275.out 0; have hfz51_1 := blk_frozen BK275.out 1; have hfz51_2 := blk_frozen BK275.out 2; have hfz51_3 := blk_frozen BK275.out 3; have hfz51_4 := blk_frozen BK275.out 4))
  refine bodyPost_ret (results_ct rfl _ _ gb275 25 #[.int .i64 0, .int .i64 0, .int .i64 0, .int .i64 0, .string (⟨#[]⟩ : ByteArray)] (0, 0) _ rfl (by (with_reducible repeat (first | refine blk_drewN ?_ _ | refine blk_drew ?_ | refine blk_alloc ?_ _)); refine blk_put (cs := #[.int .i64 0, .int .i64 0, .int .i64 0, .int .i64 0, .string (⟨#[]⟩ : ByteArray)]) ?_ 4 _ rfl; (with_reducible repeat (first | refine blk_drewN ?_ _ | refine blk_drew ?_ | refine blk_alloc ?_ _)); refine blk_put (cs := #[.int .i64 0, .int .i64 0, .int .i64 0, .int .i64 0, .string (⟨#[]⟩ : ByteArray)]) ?_ 3 _ rfl; (with_reducible repeat (first | refine blk_drewN ?_ _ | refine blk_drew ?_ | refine blk_alloc ?_ _)); refine blk_put (cs := #[.int .i64 0, .int .i64 0, .int .i64 0, .int .i64 0, .string (⟨#[]⟩ : ByteArray)]) ?_ 2 _ rfl; (with_reducible repeat (first | refine blk_drewN ?_ _ | refine blk_drew ?_ | refine blk_alloc ?_ _)); refine blk_put (cs := #[.int .i64 0, .int .i64 0, .int .i64 0, .int .i64 0, .string (⟨#[]⟩ : ByteArray)]) ?_ 1 _ rfl; (with_reducible repeat (first | refine blk_drewN ?_ _ | refine blk_drew ?_ | refine blk_alloc ?_ _)); refine blk_put (cs := #[.int .i64 0, .int .i64 0, .int .i64 0, .int .i64 0, .string (⟨#[]⟩ : ByteArray)]) ?_ 0 _ rfl; (with_reducible repeat (first | refine blk_drewN ?_ _ | refine blk_drew ?_ | refine blk_alloc ?_ _)); exact BK275.out) Tryd.underlying25 rfl (by kernel_rfl)) rfl ?_
  exact ⟨er, bw⟩

end Go.Proofs.YtocgbfcjmgpleaaDoor.P
