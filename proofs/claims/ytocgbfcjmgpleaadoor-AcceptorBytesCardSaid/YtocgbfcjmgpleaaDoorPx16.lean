-- Printed by this session's program wip/xp.py (a turned copy of the kit's printer): functions, their contracts.
import Derived.Test.YtocgbfcjmgpleaaDoorPx0
import Derived.Test.YtocgbfcjmgpleaaDoorPx9
import Derived.Test.YtocgbfcjmgpleaaDoorPx15
namespace Go.Proofs.YtocgbfcjmgpleaaDoor.P
open Go.RowKit Go.Proofs.YtocgbfcjmgpleaaDoorW.PrintWords Go.Proofs.YtocgbfcjmgpleaaDoorW.PrintLast Go.Proofs.YtocgbfcjmgpleaaDoorW.PrintMore
attribute [local go_sem] max2_int min2_int max_two min_two max_three min_three max_four min_four   -- for this text's walks alone
set_option linter.unusedVariables false
set_option linter.unusedSimpArgs false

/-! ### carillonref10_Decode: function 10 -/
def carillonref10_Decode.f (k : Nat) (a0 : ByteArray) : Option (Int × Int × Int × Int × ByteArray × Int) := (carillonref01_Decode.f k (⟨#[108, 98, 108, 98, 116]⟩ : ByteArray) a0).bind fun bt322 => (if bt322.2 = 0 then (if 0 < (bt322.1.length : Int) then (if ((rd_T51 bt322.1 0).f1) > 9007199254740991 then (some (0, 0, 0, 0, (⟨#[]⟩ : ByteArray), 10)) else (if 2 < (bt322.1.length : Int) then (if ((rd_T51 bt322.1 2).f1) > 9007199254740991 then (some (0, 0, 0, 0, (⟨#[]⟩ : ByteArray), 10)) else (if 1 < (bt322.1.length : Int) then (if 3 < (bt322.1.length : Int) then (if 4 < (bt322.1.length : Int) then ((carillonref10_RightAcceptor.f (wrap64 ((rd_T51 bt322.1 0).f1)) (wrap64 ((rd_T51 bt322.1 1).f1)) (wrap64 ((rd_T51 bt322.1 2).f1)) (wrap64 ((rd_T51 bt322.1 3).f1)) ((rd_T51 bt322.1 4).f2)).bind fun t334 => (if t334 = true then (some (wrap64 ((rd_T51 bt322.1 0).f1), wrap64 ((rd_T51 bt322.1 1).f1), wrap64 ((rd_T51 bt322.1 2).f1), wrap64 ((rd_T51 bt322.1 3).f1), (rd_T51 bt322.1 4).f2, 0)) else (some (0, 0, 0, 0, (⟨#[]⟩ : ByteArray), 10)))) else (none)) else (none)) else (none))) else (none))) else (none)) else (some (0, 0, 0, 0, (⟨#[]⟩ : ByteArray), bt322.2)))
theorem carillonref10_Decode.mono : ∀ a0 k, LeO (carillonref10_Decode.f k a0) (carillonref10_Decode.f (k + 1) a0) := by
 intro a0 k
 unfold carillonref10_Decode.f
 repeat' first
   | (with_reducible exact carillonref01_Decode.mono _ _ _)
   | (with_reducible exact LeO.refl _)
   | (with_reducible exact LeO.none _)
   | (with_reducible refine LeO.ite ?_ ?_)
   | (with_reducible refine LeO.bind ?_ (fun _ => ?_))
   | exact carillonref01_Decode.mono _ _ _
   | exact LeO.none _
   | refine LeO.ite ?_ ?_
   | refine LeO.bind ?_ (fun _ => ?_)
def carillonref10_Decode.T6 : Bool × List (List Nat × List Nat) := (true, [([], []), ([0], [0]), ([1], [1]), ([2], [2]), ([3], [3]), ([], []), ([5], [5]), ([6], [6]), ([7], [7]), ([8], [8]), ([4, 9], [4, 9]), ([], []), ([11], [11]), ([12], [12]), ([13], [13]), ([14], [14]), ([], []), ([16], [16]), ([17], [17]), ([18], [18]), ([19], [19]), ([15, 20], [15, 20]), ([], []), ([22], [22]), ([23], [23]), ([24], [24]), ([10, 21, 25], [10, 21, 25]), ([], []), ([27, 26, 0, 1, 2, 3, 4, 5, 6, 7, 8, 9, 10, 11, 12, 13, 14, 15, 16, 17, 18, 19, 20, 21, 22, 23, 24, 25, 26, 27], [26, 27])])
def carillonref10_Decode.B6 : List Nat := [0, 1, 3, 7, 15, 0, 32, 96, 224, 480, 1023, 0, 2048, 6144, 14336, 30720, 0, 65536, 196608, 458752, 983040, 2095104, 0, 4194304, 12582912, 29360128, 67108863, 0, 268435455]
theorem carillonref10_Decode.tab6 : rtab .any (opsOf Tryd.f10 6) = carillonref10_Decode.T6 := by kernel_rfl
theorem carillonref10_Decode.bits6 : waitsOk carillonref10_Decode.T6.2 carillonref10_Decode.B6 = true := by kernel_rfl
set_option maxHeartbeats 8000000 in
set_option maxRecDepth 100000 in
theorem carillonref10_Decode.calls (k : Nat) (a0 : ByteArray) (r1 : Int) (r2 : Int) (r3 : Int) (r4 : Int) (r5 : ByteArray) (r6 : Int) (w : World) (h : carillonref10_Decode.f k a0 = some (r1, r2, r3, r4, r5, r6)) :
  Calls Tryd.prog 10 #[.string a0] w fun e w' => e = .returned (.tuple #[.agg #[.int .i64 r1, .int .i64 r2, .int .i64 r3, .int .i64 r4, .string r5], .int .i64 r6]) ∧ Below w.heap.size w w' := by
 have hu25 := Tryd.underlying25
 have hu23 := Tryd.underlying23
 have HB := Aside0.mk (Below.refl w.heap.size w)
 have H : ((carillonref01_Decode.f k (⟨#[108, 98, 108, 98, 116]⟩ : ByteArray) a0).bind fun bt322 => (if bt322.2 = 0 then (if 0 < (bt322.1.length : Int) then (if ((rd_T51 bt322.1 0).f1) > 9007199254740991 then (some (0, 0, 0, 0, (⟨#[]⟩ : ByteArray), 10)) else (if 2 < (bt322.1.length : Int) then (if ((rd_T51 bt322.1 2).f1) > 9007199254740991 then (some (0, 0, 0, 0, (⟨#[]⟩ : ByteArray), 10)) else (if 1 < (bt322.1.length : Int) then (if 3 < (bt322.1.length : Int) then (if 4 < (bt322.1.length : Int) then ((carillonref10_RightAcceptor.f (wrap64 ((rd_T51 bt322.1 0).f1)) (wrap64 ((rd_T51 bt322.1 1).f1)) (wrap64 ((rd_T51 bt322.1 2).f1)) (wrap64 ((rd_T51 bt322.1 3).f1)) ((rd_T51 bt322.1 4).f2)).bind fun t334 => (if t334 = true then (some (wrap64 ((rd_T51 bt322.1 0).f1), wrap64 ((rd_T51 bt322.1 1).f1), wrap64 ((rd_T51 bt322.1 2).f1), wrap64 ((rd_T51 bt322.1 3).f1), (rd_T51 bt322.1 4).f2, 0)) else (some (0, 0, 0, 0, (⟨#[]⟩ : ByteArray), 10)))) else (none)) else (none)) else (none))) else (none))) else (none)) else (some (0, 0, 0, 0, (⟨#[]⟩ : ByteArray), bt322.2)))) = some (r1, r2, r3, r4, r5, r6) := h
 clear h
 replace H := Option.bind_eq_some_iff.mp H
 obtain ⟨⟨t322, t323⟩, A20, H⟩ := H
 replace H : (if t323 = 0 then (if 0 < (t322.length : Int) then (if ((rd_T51 t322 0).f1) > 9007199254740991 then (some (0, 0, 0, 0, (⟨#[]⟩ : ByteArray), 10)) else (if 2 < (t322.length : Int) then (if ((rd_T51 t322 2).f1) > 9007199254740991 then (some (0, 0, 0, 0, (⟨#[]⟩ : ByteArray), 10)) else (if 1 < (t322.length : Int) then (if 3 < (t322.length : Int) then (if 4 < (t322.length : Int) then ((carillonref10_RightAcceptor.f (wrap64 ((rd_T51 t322 0).f1)) (wrap64 ((rd_T51 t322 1).f1)) (wrap64 ((rd_T51 t322 2).f1)) (wrap64 ((rd_T51 t322 3).f1)) ((rd_T51 t322 4).f2)).bind fun t334 => (if t334 = true then (some (wrap64 ((rd_T51 t322 0).f1), wrap64 ((rd_T51 t322 1).f1), wrap64 ((rd_T51 t322 2).f1), wrap64 ((rd_T51 t322 3).f1), (rd_T51 t322 4).f2, 0)) else (some (0, 0, 0, 0, (⟨#[]⟩ : ByteArray), 10)))) else (none)) else (none)) else (none))) else (none))) else (none)) else (some (0, 0, 0, 0, (⟨#[]⟩ : ByteArray), t323))) = some (r1, r2, r3, r4, r5, r6) := H
 have A2 := Aside0.mk A20
 clear A20
 by_cases c3 : t323 = 0
 ·rw [if_pos c3] at H
  have c3b0 : (t323 == 0) = true := beq_iff_eq.mpr c3
  have c3b1 : (t323 != 0) = false := bne_eq_false_iff_eq.mpr c3
  clear c3
  by_cases c4 : 0 < (t322.length : Int)
  ·rw [if_pos c4] at H
   have c4b0 : decide (0 < (t322.length : Int)) = true := decide_eq_true c4
   have c4b1 : decide (0 < t322.length) = true := decide_eq_true (by omega)
   clear c4
   by_cases c5 : ((rd_T51 t322 0).f1) > 9007199254740991
   ·rw [if_pos c5] at H
    have c5b0 : decide (9007199254740991 < ((rd_T51 t322 0).f1)) = true := decide_eq_true c5
    clear c5
    simp only [Option.some.injEq, Prod.mk.injEq] at H
    obtain ⟨rfl, rfl, rfl, rfl, rfl, rfl⟩ := H
    go_enter Tryd.func10, Tryd.ntmps10
    go_wp2_with (first | ((with_reducible refine gate_dst (N := 2) rfl ?_); refine box_event ?hg (N := 2) ?hd (cs := #[.int .i64 0, .int .i64 0, .int .i64 0, .int .i64 0, .string (⟨#[]⟩ : ByteArray)]) (t := 25) ?hr ?_; (case hd => rfl); (case hg => rfl); (case hr => first | (go_simp; done) | (go_simp; rfl)); intro gb321 hg w6 hbox hb; have n0_ := Aside0.mk (below_step bw hb); have n1_ := Aside0.mk (hbox); have n2_ := Aside0.mk ((g1 hg bw : w.heap.size ≤ gb321)); have n3_ := Aside0.mk ((g1 hg bw : w.heap.size ≤ gb321)); clear HB; have HB := n0_; have BK321 := n1_; have GW321 := n2_; have GE321 := n3_; clear n0_ n1_ n2_ n3_; clear hb hbox hg) | ((with_reducible refine gate_callee (f := 20) rfl ?_); refine goesL_ (some 10) rfl rfl Tryd.func20 (by kernel_rfl) rfl #[.string (⟨#[108, 98, 108, 98, 116]⟩ : ByteArray), .string a0] rfl am ?_; (with_reducible refine (carillonref01_Decode.calls k (⟨#[108, 98, 108, 98, 116]⟩ : ByteArray) a0 t322 t323 _ A2.out).mono ?_); rintro e w7 ⟨v324, rfl, ho0, hb⟩; refine ⟨_, rfl, ?_⟩; have n0_ := Aside0.mk (Kd.R_lower ho0 (below_size bw)); have n1_ := Aside0.mk (nb BK321.out hb); have n2_ := Aside0.mk (below_step bw hb); clear BK321; clear HB; have HO325 := n0_; have BK321 := n1_; have HB := n2_; clear n0_ n1_ n2_; (try clear hb); (try clear hb2); (try clear hk); (try clear hi); (try clear ho0); obtain ⟨Ao8, co8, eo8⟩ := Kd.R_slice HO325.out; subst eo8; have p326 : 0 ≤ (0 : Int) := (by omega); have q326 : 0 < (t322.length : Int) := of_decide_eq_true (by first | (with_reducible assumption) | assumption); obtain ⟨ad326, e326, hx326_0, hx326_1, hx326_2⟩ := at_T51 (Kd.R_reads' HO325.out).2.2 0 p326 q326; cases e326; have qi326 : (0 < t322.length) = True := eq_true (by omega); (try rw [show ((0 : Int)).toNat = 0 from rfl] at hx326_0); (try rw [show 0 * 3 = 0 from rfl] at hx326_0); (try rw [Addr.add_zero'] at hx326_0); (try rw [show ((0 : Int)).toNat = 0 from rfl] at hx326_1); (try rw [show 0 * 3 = 0 from rfl] at hx326_1); (try rw [Addr.add_zero'] at hx326_1); (try rw [show ((0 : Int)).toNat = 0 from rfl] at hx326_2); (try rw [show 0 * 3 = 0 from rfl] at hx326_2); (try rw [Addr.add_zero'] at hx326_2); replace p326 := eq_true p326; replace q326 := eq_true q326; have hcz9_0 := bc5_0 BK321.out; have hcz9_1 := bc5_1 BK321.out; have hcz9_2 := bc5_2 BK321.out; have hcz9_3 := bc5_3 BK321.out; have hcz9_4 := bc5_4 BK321.out; have hfz9_0 := blk_frozen BK321.out 0; have hfz9_1 := blk_frozen BK321.out 1; have hfz9_2 := blk_frozen BK321.out 2; have hfz9_3 := blk_frozen BK321.out 3; have hfz9_4 := blk_frozen BK321.out 4))
    refine bodyPost_ret (results_ct rfl _ _ gb321 25 #[.int .i64 0, .int .i64 0, .int .i64 0, .int .i64 0, .string (⟨#[]⟩ : ByteArray)] (0, 0) _ rfl (by (with_reducible repeat (first | refine blk_drewN ?_ _ | refine blk_drew ?_ | refine blk_alloc ?_ _)); refine blk_put (cs := #[.int .i64 0, .int .i64 0, .int .i64 0, .int .i64 0, .string (⟨#[]⟩ : ByteArray)]) ?_ 4 _ rfl; (with_reducible repeat (first | refine blk_drewN ?_ _ | refine blk_drew ?_ | refine blk_alloc ?_ _)); refine blk_put (cs := #[.int .i64 0, .int .i64 0, .int .i64 0, .int .i64 0, .string (⟨#[]⟩ : ByteArray)]) ?_ 3 _ rfl; (with_reducible repeat (first | refine blk_drewN ?_ _ | refine blk_drew ?_ | refine blk_alloc ?_ _)); refine blk_put (cs := #[.int .i64 0, .int .i64 0, .int .i64 0, .int .i64 0, .string (⟨#[]⟩ : ByteArray)]) ?_ 2 _ rfl; (with_reducible repeat (first | refine blk_drewN ?_ _ | refine blk_drew ?_ | refine blk_alloc ?_ _)); refine blk_put (cs := #[.int .i64 0, .int .i64 0, .int .i64 0, .int .i64 0, .string (⟨#[]⟩ : ByteArray)]) ?_ 1 _ rfl; (with_reducible repeat (first | refine blk_drewN ?_ _ | refine blk_drew ?_ | refine blk_alloc ?_ _)); refine blk_put (cs := #[.int .i64 0, .int .i64 0, .int .i64 0, .int .i64 0, .string (⟨#[]⟩ : ByteArray)]) ?_ 0 _ rfl; (with_reducible repeat (first | refine blk_drewN ?_ _ | refine blk_drew ?_ | refine blk_alloc ?_ _)); exact BK321.out) Tryd.underlying25 rfl (by kernel_rfl)) rfl ?_
    exact ⟨er, bw⟩
   ·rw [if_neg c5] at H
    have c5b0 : decide (9007199254740991 < ((rd_T51 t322 0).f1)) = false := decide_eq_false c5
    clear c5
    by_cases c10 : 2 < (t322.length : Int)
    ·rw [if_pos c10] at H
     have c10b0 : decide (2 < (t322.length : Int)) = true := decide_eq_true c10
     have c10b1 : decide (2 < t322.length) = true := decide_eq_true (by omega)
     clear c10
     by_cases c11 : ((rd_T51 t322 2).f1) > 9007199254740991
     ·rw [if_pos c11] at H
      have c11b0 : decide (9007199254740991 < ((rd_T51 t322 2).f1)) = true := decide_eq_true c11
      clear c11
      simp only [Option.some.injEq, Prod.mk.injEq] at H
      obtain ⟨rfl, rfl, rfl, rfl, rfl, rfl⟩ := H
      go_enter Tryd.func10, Tryd.ntmps10
      go_wp2_with (first | ((with_reducible refine gate_dst (N := 2) rfl ?_); refine box_event ?hg (N := 2) ?hd (cs := #[.int .i64 0, .int .i64 0, .int .i64 0, .int .i64 0, .string (⟨#[]⟩ : ByteArray)]) (t := 25) ?hr ?_; (case hd => rfl); (case hg => rfl); (case hr => first | (go_simp; done) | (go_simp; rfl)); intro gb321 hg w12 hbox hb; have n0_ := Aside0.mk (below_step bw hb); have n1_ := Aside0.mk (hbox); have n2_ := Aside0.mk ((g1 hg bw : w.heap.size ≤ gb321)); have n3_ := Aside0.mk ((g1 hg bw : w.heap.size ≤ gb321)); clear HB; have HB := n0_; have BK321 := n1_; have GW321 := n2_; have GE321 := n3_; clear n0_ n1_ n2_ n3_; clear hb hbox hg) | ((with_reducible refine gate_callee (f := 20) rfl ?_); refine goesL_ (some 10) rfl rfl Tryd.func20 (by kernel_rfl) rfl #[.string (⟨#[108, 98, 108, 98, 116]⟩ : ByteArray), .string a0] rfl am ?_; (with_reducible refine (carillonref01_Decode.calls k (⟨#[108, 98, 108, 98, 116]⟩ : ByteArray) a0 t322 t323 _ A2.out).mono ?_); rintro e w13 ⟨v324, rfl, ho0, hb⟩; refine ⟨_, rfl, ?_⟩; have n0_ := Aside0.mk (Kd.R_lower ho0 (below_size bw)); have n1_ := Aside0.mk (nb BK321.out hb); have n2_ := Aside0.mk (below_step bw hb); clear BK321; clear HB; have HO325 := n0_; have BK321 := n1_; have HB := n2_; clear n0_ n1_ n2_; (try clear hb); (try clear hb2); (try clear hk); (try clear hi); (try clear ho0); obtain ⟨Ao14, co14, eo14⟩ := Kd.R_slice HO325.out; subst eo14; have p326 : 0 ≤ (0 : Int) := (by omega); have q326 : 0 < (t322.length : Int) := of_decide_eq_true (by first | (with_reducible assumption) | assumption); obtain ⟨ad326, e326, hx326_0, hx326_1, hx326_2⟩ := at_T51 (Kd.R_reads' HO325.out).2.2 0 p326 q326; cases e326; have qi326 : (0 < t322.length) = True := eq_true (by omega); (try rw [show ((0 : Int)).toNat = 0 from rfl] at hx326_0); (try rw [show 0 * 3 = 0 from rfl] at hx326_0); (try rw [Addr.add_zero'] at hx326_0); (try rw [show ((0 : Int)).toNat = 0 from rfl] at hx326_1); (try rw [show 0 * 3 = 0 from rfl] at hx326_1); (try rw [Addr.add_zero'] at hx326_1); (try rw [show ((0 : Int)).toNat = 0 from rfl] at hx326_2); (try rw [show 0 * 3 = 0 from rfl] at hx326_2); (try rw [Addr.add_zero'] at hx326_2); replace p326 := eq_true p326; replace q326 := eq_true q326; have p327 : 0 ≤ (2 : Int) := (by omega); have q327 : 2 < (t322.length : Int) := of_decide_eq_true (by first | (with_reducible assumption) | assumption); obtain ⟨ad327, e327, hx327_0, hx327_1, hx327_2⟩ := at_T51 (Kd.R_reads' HO325.out).2.2 2 p327 q327; obtain rfl : ad326 = ad327 := (by injection e327); (try simp only [show (2 : Int).toNat = 2 from rfl, Nat.reduceMul, Nat.reduceEqDiff, Go.Addr.add, ↓reduceIte] at hx327_0); (try simp only [show (2 : Int).toNat = 2 from rfl, Nat.reduceMul, Nat.reduceEqDiff, Go.Addr.add, ↓reduceIte] at hx327_1); (try simp only [show (2 : Int).toNat = 2 from rfl, Nat.reduceMul, Nat.reduceEqDiff, Go.Addr.add, ↓reduceIte] at hx327_2); have qi327 : (2 < t322.length) = True := eq_true (by omega); (try rw [show ((2 : Int)).toNat = 2 from rfl] at hx327_0); (try rw [show 2 * 3 = 6 from rfl] at hx327_0); (try rw [show ((2 : Int)).toNat = 2 from rfl] at hx327_1); (try rw [show 2 * 3 = 6 from rfl] at hx327_1); (try rw [show ((2 : Int)).toNat = 2 from rfl] at hx327_2); (try rw [show 2 * 3 = 6 from rfl] at hx327_2); replace p327 := eq_true p327; replace q327 := eq_true q327; have hcz15_0 := bc5_0 BK321.out; have hcz15_1 := bc5_1 BK321.out; have hcz15_2 := bc5_2 BK321.out; have hcz15_3 := bc5_3 BK321.out; have hcz15_4 := bc5_4 BK321.out; have hfz15_0 := blk_frozen BK321.out 0; have hfz15_1 := blk_frozen BK321.out 1; have hfz15_2 := blk_frozen BK321.out 2; have hfz15_3 := blk_frozen BK321.out 3; have hfz15_4 := blk_frozen BK321.out 4))
      refine bodyPost_ret (results_ct rfl _ _ gb321 25 #[.int .i64 0, .int .i64 0, .int .i64 0, .int .i64 0, .string (⟨#[]⟩ : ByteArray)] (0, 0) _ rfl (by (with_reducible repeat (first | refine blk_drewN ?_ _ | refine blk_drew ?_ | refine blk_alloc ?_ _)); refine blk_put (cs := #[.int .i64 0, .int .i64 0, .int .i64 0, .int .i64 0, .string (⟨#[]⟩ : ByteArray)]) ?_ 4 _ rfl; (with_reducible repeat (first | refine blk_drewN ?_ _ | refine blk_drew ?_ | refine blk_alloc ?_ _)); refine blk_put (cs := #[.int .i64 0, .int .i64 0, .int .i64 0, .int .i64 0, .string (⟨#[]⟩ : ByteArray)]) ?_ 3 _ rfl; (with_reducible repeat (first | refine blk_drewN ?_ _ | refine blk_drew ?_ | refine blk_alloc ?_ _)); refine blk_put (cs := #[.int .i64 0, .int .i64 0, .int .i64 0, .int .i64 0, .string (⟨#[]⟩ : ByteArray)]) ?_ 2 _ rfl; (with_reducible repeat (first | refine blk_drewN ?_ _ | refine blk_drew ?_ | refine blk_alloc ?_ _)); refine blk_put (cs := #[.int .i64 0, .int .i64 0, .int .i64 0, .int .i64 0, .string (⟨#[]⟩ : ByteArray)]) ?_ 1 _ rfl; (with_reducible repeat (first | refine blk_drewN ?_ _ | refine blk_drew ?_ | refine blk_alloc ?_ _)); refine blk_put (cs := #[.int .i64 0, .int .i64 0, .int .i64 0, .int .i64 0, .string (⟨#[]⟩ : ByteArray)]) ?_ 0 _ rfl; (with_reducible repeat (first | refine blk_drewN ?_ _ | refine blk_drew ?_ | refine blk_alloc ?_ _)); exact BK321.out) Tryd.underlying25 rfl (by kernel_rfl)) rfl ?_
      exact ⟨er, bw⟩
     ·rw [if_neg c11] at H
      have c11b0 : decide (9007199254740991 < ((rd_T51 t322 2).f1)) = false := decide_eq_false c11
      clear c11
      by_cases c16 : 1 < (t322.length : Int)
      ·rw [if_pos c16] at H
       have c16b0 : decide (1 < (t322.length : Int)) = true := decide_eq_true c16
       have c16b1 : decide (1 < t322.length) = true := decide_eq_true (by omega)
       clear c16
       by_cases c17 : 3 < (t322.length : Int)
       ·rw [if_pos c17] at H
        have c17b0 : decide (3 < (t322.length : Int)) = true := decide_eq_true c17
        have c17b1 : decide (3 < t322.length) = true := decide_eq_true (by omega)
        clear c17
        by_cases c18 : 4 < (t322.length : Int)
        ·rw [if_pos c18] at H
         have c18b0 : decide (4 < (t322.length : Int)) = true := decide_eq_true c18
         have c18b1 : decide (4 < t322.length) = true := decide_eq_true (by omega)
         clear c18
         replace H := Option.bind_eq_some_iff.mp H
         obtain ⟨t334, A190, H⟩ := H
         replace H : (if t334 = true then (some (wrap64 ((rd_T51 t322 0).f1), wrap64 ((rd_T51 t322 1).f1), wrap64 ((rd_T51 t322 2).f1), wrap64 ((rd_T51 t322 3).f1), (rd_T51 t322 4).f2, 0)) else (some (0, 0, 0, 0, (⟨#[]⟩ : ByteArray), 10))) = some (r1, r2, r3, r4, r5, r6) := H
         have A19 := Aside0.mk A190
         clear A190
         by_cases c20 : t334 = true
         ·subst c20
          have H1 : (some (wrap64 ((rd_T51 t322 0).f1), wrap64 ((rd_T51 t322 1).f1), wrap64 ((rd_T51 t322 2).f1), wrap64 ((rd_T51 t322 3).f1), (rd_T51 t322 4).f2, 0)) = some (r1, r2, r3, r4, r5, r6) := by rw [if_pos rfl] at H; exact H
          clear H
          have H := H1
          clear H1
          simp only [Option.some.injEq, Prod.mk.injEq] at H
          obtain ⟨rfl, rfl, rfl, rfl, rfl, rfl⟩ := H
          go_enter Tryd.func10, Tryd.ntmps10
          try go_wp2_with (first | ((with_reducible refine gate_dst (N := 2) rfl ?_); refine box_event ?hg (N := 2) ?hd (cs := #[.int .i64 0, .int .i64 0, .int .i64 0, .int .i64 0, .string (⟨#[]⟩ : ByteArray)]) (t := 25) ?hr ?_; (case hd => rfl); (case hg => rfl); (case hr => first | (go_simp; done) | (go_simp; rfl)); intro gb321 hg w21 hbox hb; have n0_ := Aside0.mk (below_step bw hb); have n1_ := Aside0.mk (hbox); have n2_ := Aside0.mk ((g1 hg bw : w.heap.size ≤ gb321)); have n3_ := Aside0.mk ((g1 hg bw : w.heap.size ≤ gb321)); clear HB; have HB := n0_; have BK321 := n1_; have GW321 := n2_; have GE321 := n3_; clear n0_ n1_ n2_ n3_; clear hb hbox hg) | ((with_reducible refine gate_callee (f := 20) rfl ?_); refine goesL_ (some 10) rfl rfl Tryd.func20 (by kernel_rfl) rfl #[.string (⟨#[108, 98, 108, 98, 116]⟩ : ByteArray), .string a0] rfl am ?_; (with_reducible refine (carillonref01_Decode.calls k (⟨#[108, 98, 108, 98, 116]⟩ : ByteArray) a0 t322 t323 _ A2.out).mono ?_); rintro e w22 ⟨v324, rfl, ho0, hb⟩; refine ⟨_, rfl, ?_⟩; have n0_ := Aside0.mk (Kd.R_lower ho0 (below_size bw)); have n1_ := Aside0.mk (nb BK321.out hb); have n2_ := Aside0.mk (below_step bw hb); clear BK321; clear HB; have HO325 := n0_; have BK321 := n1_; have HB := n2_; clear n0_ n1_ n2_; (try clear hb); (try clear hb2); (try clear hk); (try clear hi); (try clear ho0); obtain ⟨Ao23, co23, eo23⟩ := Kd.R_slice HO325.out; subst eo23; have p326 : 0 ≤ (0 : Int) := (by omega); have q326 : 0 < (t322.length : Int) := of_decide_eq_true (by first | (with_reducible assumption) | assumption); obtain ⟨ad326, e326, hx326_0, hx326_1, hx326_2⟩ := at_T51 (Kd.R_reads' HO325.out).2.2 0 p326 q326; cases e326; have qi326 : (0 < t322.length) = True := eq_true (by omega); (try rw [show ((0 : Int)).toNat = 0 from rfl] at hx326_0); (try rw [show 0 * 3 = 0 from rfl] at hx326_0); (try rw [Addr.add_zero'] at hx326_0); (try rw [show ((0 : Int)).toNat = 0 from rfl] at hx326_1); (try rw [show 0 * 3 = 0 from rfl] at hx326_1); (try rw [Addr.add_zero'] at hx326_1); (try rw [show ((0 : Int)).toNat = 0 from rfl] at hx326_2); (try rw [show 0 * 3 = 0 from rfl] at hx326_2); (try rw [Addr.add_zero'] at hx326_2); replace p326 := eq_true p326; replace q326 := eq_true q326; have p327 : 0 ≤ (2 : Int) := (by omega); have q327 : 2 < (t322.length : Int) := of_decide_eq_true (by first | (with_reducible assumption) | assumption); obtain ⟨ad327, e327, hx327_0, hx327_1, hx327_2⟩ := at_T51 (Kd.R_reads' HO325.out).2.2 2 p327 q327; obtain rfl : ad326 = ad327 := (by injection e327); (try simp only [show (2 : Int).toNat = 2 from rfl, Nat.reduceMul, Nat.reduceEqDiff, Go.Addr.add, ↓reduceIte] at hx327_0); (try simp only [show (2 : Int).toNat = 2 from rfl, Nat.reduceMul, Nat.reduceEqDiff, Go.Addr.add, ↓reduceIte] at hx327_1); (try simp only [show (2 : Int).toNat = 2 from rfl, Nat.reduceMul, Nat.reduceEqDiff, Go.Addr.add, ↓reduceIte] at hx327_2); have qi327 : (2 < t322.length) = True := eq_true (by omega); (try rw [show ((2 : Int)).toNat = 2 from rfl] at hx327_0); (try rw [show 2 * 3 = 6 from rfl] at hx327_0); (try rw [show ((2 : Int)).toNat = 2 from rfl] at hx327_1); (try rw [show 2 * 3 = 6 from rfl] at hx327_1); (try rw [show ((2 : Int)).toNat = 2 from rfl] at hx327_2); (try rw [show 2 * 3 = 6 from rfl] at hx327_2); replace p327 := eq_true p327; replace q327 := eq_true q327))
          have n0_ := Aside0.mk (Kd.R_drew HO325.out)
          have n1_ := Aside0.mk (blk_drew BK321.out)
          have n2_ := Aside0.mk (below_drew1 HB.out)
          clear HO325
          clear BK321
          clear HB
          have HO325 := n0_
          have BK321 := n1_
          have HB := n2_
          clear n0_ n1_ n2_
          have p328 : 0 ≤ (0 : Int) := (by omega)
          have q328 : 0 < (t322.length : Int) := of_decide_eq_true (by first | (with_reducible assumption) | assumption)
          obtain ⟨ad328, e328, hx328_0, hx328_1, hx328_2⟩ := at_T51 (Kd.R_reads' HO325.out).2.2 0 p328 q328
          obtain rfl : ad326 = ad328 := (by injection e328)
          have qi328 : (0 < t322.length) = True := eq_true (by omega)
          (try rw [show ((0 : Int)).toNat = 0 from rfl] at hx328_0)
          (try rw [show 0 * 3 = 0 from rfl] at hx328_0)
          (try rw [Addr.add_zero'] at hx328_0)
          (try rw [show ((0 : Int)).toNat = 0 from rfl] at hx328_1)
          (try rw [show 0 * 3 = 0 from rfl] at hx328_1)
          (try rw [Addr.add_zero'] at hx328_1)
          (try rw [show ((0 : Int)).toNat = 0 from rfl] at hx328_2)
          (try rw [show 0 * 3 = 0 from rfl] at hx328_2)
          (try rw [Addr.add_zero'] at hx328_2)
          replace p328 := eq_true p328
          replace q328 := eq_true q328
          have p329 : 0 ≤ (1 : Int) := (by omega)
          have q329 : 1 < (t322.length : Int) := of_decide_eq_true (by first | (with_reducible assumption) | assumption)
          obtain ⟨ad329, e329, hx329_0, hx329_1, hx329_2⟩ := at_T51 (Kd.R_reads' HO325.out).2.2 1 p329 q329
          obtain rfl : ad326 = ad329 := (by injection e329)
          (try simp only [show (1 : Int).toNat = 1 from rfl, Nat.reduceMul, Nat.reduceEqDiff, Go.Addr.add, ↓reduceIte] at hx329_0)
          (try simp only [show (1 : Int).toNat = 1 from rfl, Nat.reduceMul, Nat.reduceEqDiff, Go.Addr.add, ↓reduceIte] at hx329_1)
          (try simp only [show (1 : Int).toNat = 1 from rfl, Nat.reduceMul, Nat.reduceEqDiff, Go.Addr.add, ↓reduceIte] at hx329_2)
          have qi329 : (1 < t322.length) = True := eq_true (by omega)
          (try rw [show ((1 : Int)).toNat = 1 from rfl] at hx329_0)
          (try rw [show 1 * 3 = 3 from rfl] at hx329_0)
          (try rw [show ((1 : Int)).toNat = 1 from rfl] at hx329_1)
          (try rw [show 1 * 3 = 3 from rfl] at hx329_1)
          (try rw [show ((1 : Int)).toNat = 1 from rfl] at hx329_2)
          (try rw [show 1 * 3 = 3 from rfl] at hx329_2)
          replace p329 := eq_true p329
          replace q329 := eq_true q329
          have p330 : 0 ≤ (2 : Int) := (by omega)
          have q330 : 2 < (t322.length : Int) := of_decide_eq_true (by first | (with_reducible assumption) | assumption)
          obtain ⟨ad330, e330, hx330_0, hx330_1, hx330_2⟩ := at_T51 (Kd.R_reads' HO325.out).2.2 2 p330 q330
          obtain rfl : ad326 = ad330 := (by injection e330)
          (try simp only [show (2 : Int).toNat = 2 from rfl, Nat.reduceMul, Nat.reduceEqDiff, Go.Addr.add, ↓reduceIte] at hx330_0)
          (try simp only [show (2 : Int).toNat = 2 from rfl, Nat.reduceMul, Nat.reduceEqDiff, Go.Addr.add, ↓reduceIte] at hx330_1)
          (try simp only [show (2 : Int).toNat = 2 from rfl, Nat.reduceMul, Nat.reduceEqDiff, Go.Addr.add, ↓reduceIte] at hx330_2)
          have qi330 : (2 < t322.length) = True := eq_true (by omega)
          (try rw [show ((2 : Int)).toNat = 2 from rfl] at hx330_0)
          (try rw [show 2 * 3 = 6 from rfl] at hx330_0)
          (try rw [show ((2 : Int)).toNat = 2 from rfl] at hx330_1)
          (try rw [show 2 * 3 = 6 from rfl] at hx330_1)
          (try rw [show ((2 : Int)).toNat = 2 from rfl] at hx330_2)
          (try rw [show 2 * 3 = 6 from rfl] at hx330_2)
          replace p330 := eq_true p330
          replace q330 := eq_true q330
          have p331 : 0 ≤ (3 : Int) := (by omega)
          have q331 : 3 < (t322.length : Int) := of_decide_eq_true (by first | (with_reducible assumption) | assumption)
          obtain ⟨ad331, e331, hx331_0, hx331_1, hx331_2⟩ := at_T51 (Kd.R_reads' HO325.out).2.2 3 p331 q331
          obtain rfl : ad326 = ad331 := (by injection e331)
          (try simp only [show (3 : Int).toNat = 3 from rfl, Nat.reduceMul, Nat.reduceEqDiff, Go.Addr.add, ↓reduceIte] at hx331_0)
          (try simp only [show (3 : Int).toNat = 3 from rfl, Nat.reduceMul, Nat.reduceEqDiff, Go.Addr.add, ↓reduceIte] at hx331_1)
          (try simp only [show (3 : Int).toNat = 3 from rfl, Nat.reduceMul, Nat.reduceEqDiff, Go.Addr.add, ↓reduceIte] at hx331_2)
          have qi331 : (3 < t322.length) = True := eq_true (by omega)
          (try rw [show ((3 : Int)).toNat = 3 from rfl] at hx331_0)
          (try rw [show 3 * 3 = 9 from rfl] at hx331_0)
          (try rw [show ((3 : Int)).toNat = 3 from rfl] at hx331_1)
          (try rw [show 3 * 3 = 9 from rfl] at hx331_1)
          (try rw [show ((3 : Int)).toNat = 3 from rfl] at hx331_2)
          (try rw [show 3 * 3 = 9 from rfl] at hx331_2)
          replace p331 := eq_true p331
          replace q331 := eq_true q331
          have p332 : 0 ≤ (4 : Int) := (by omega)
          have q332 : 4 < (t322.length : Int) := of_decide_eq_true (by first | (with_reducible assumption) | assumption)
          obtain ⟨ad332, e332, hx332_0, hx332_1, hx332_2⟩ := at_T51 (Kd.R_reads' HO325.out).2.2 4 p332 q332
          obtain rfl : ad326 = ad332 := (by injection e332)
          (try simp only [show (4 : Int).toNat = 4 from rfl, Nat.reduceMul, Nat.reduceEqDiff, Go.Addr.add, ↓reduceIte] at hx332_0)
          (try simp only [show (4 : Int).toNat = 4 from rfl, Nat.reduceMul, Nat.reduceEqDiff, Go.Addr.add, ↓reduceIte] at hx332_1)
          (try simp only [show (4 : Int).toNat = 4 from rfl, Nat.reduceMul, Nat.reduceEqDiff, Go.Addr.add, ↓reduceIte] at hx332_2)
          have qi332 : (4 < t322.length) = True := eq_true (by omega)
          (try rw [show ((4 : Int)).toNat = 4 from rfl] at hx332_0)
          (try rw [show 4 * 3 = 12 from rfl] at hx332_0)
          (try rw [show ((4 : Int)).toNat = 4 from rfl] at hx332_1)
          (try rw [show 4 * 3 = 12 from rfl] at hx332_1)
          (try rw [show ((4 : Int)).toNat = 4 from rfl] at hx332_2)
          (try rw [show 4 * 3 = 12 from rfl] at hx332_2)
          replace p332 := eq_true p332
          replace q332 := eq_true q332
          refine start_ (n := 29) (S := fun w' => w'.cell? ad326 = some (.int .i64 ((rd_T51 t322 0).f0)) ∧ w'.cell? ⟨ad326.block, ad326.off + 1, none⟩ = some (.int .u64 ((rd_T51 t322 0).f1)) ∧ w'.cell? ⟨ad326.block, ad326.off + 2, none⟩ = some (.string ((rd_T51 t322 0).f2)) ∧ w'.cell? ⟨ad326.block, ad326.off + 3, none⟩ = some (.int .i64 ((rd_T51 t322 1).f0)) ∧ w'.cell? ⟨ad326.block, ad326.off + 3 + 1, none⟩ = some (.int .u64 ((rd_T51 t322 1).f1)) ∧ w'.cell? ⟨ad326.block, ad326.off + 3 + 2, none⟩ = some (.string ((rd_T51 t322 1).f2)) ∧ w'.cell? ⟨ad326.block, ad326.off + 6, none⟩ = some (.int .i64 ((rd_T51 t322 2).f0)) ∧ w'.cell? ⟨ad326.block, ad326.off + 6 + 1, none⟩ = some (.int .u64 ((rd_T51 t322 2).f1)) ∧ w'.cell? ⟨ad326.block, ad326.off + 6 + 2, none⟩ = some (.string ((rd_T51 t322 2).f2)) ∧ w'.cell? ⟨ad326.block, ad326.off + 9, none⟩ = some (.int .i64 ((rd_T51 t322 3).f0)) ∧ w'.cell? ⟨ad326.block, ad326.off + 9 + 1, none⟩ = some (.int .u64 ((rd_T51 t322 3).f1)) ∧ w'.cell? ⟨ad326.block, ad326.off + 9 + 2, none⟩ = some (.string ((rd_T51 t322 3).f2)) ∧ w'.cell? ⟨ad326.block, ad326.off + 12, none⟩ = some (.int .i64 ((rd_T51 t322 4).f0)) ∧ w'.cell? ⟨ad326.block, ad326.off + 12 + 1, none⟩ = some (.int .u64 ((rd_T51 t322 4).f1)) ∧ w'.cell? ⟨ad326.block, ad326.off + 12 + 2, none⟩ = some (.string ((rd_T51 t322 4).f2))) (ds := []) #[false, false, false, false, false, false, false, false, false, false, false, false, false, false, false, false, false, false, false, false, false, false, false, false, false, false, false, false, false] (by kernel_rfl) rfl rfl ⟨hx328_0, hx328_1, hx328_2, hx329_0, hx329_1, hx329_2, hx330_0, hx330_1, hx330_2, hx331_0, hx331_1, hx331_2, hx332_0, hx332_1, hx332_2⟩ (fun hHeld => ?_); refine with_tabW carillonref10_Decode.tab6 carillonref10_Decode.bits6 (fun HT_ HW_ => ?_)
          generalize w22.drew = w24 at HO325 BK321 HB hx328_0 hx328_1 hx328_2 hx329_0 hx329_1 hx329_2 hx330_0 hx330_1 hx330_2 hx331_0 hx331_1 hx331_2 hx332_0 hx332_1 hx332_2 hHeld ⊢
          refine pure_ (i := 0) (N := some 30) (v := ?_) (a' := ?_) #[true, false, false, false, false, false, false, false, false, false, false, false, false, false, false, false, false, false, false, false, false, false, false, false, false, false, false, false, false] rfl rfl (any_of HT_.out (by kernel_rfl)) (fun _ _ _ h => h) (Or.inl ⟨by rfl, ?_⟩) ?_ ?_
          rotate_left
          ·intro w'
           go_simp
           with_reducible rfl
          rotate_left
          ·simp only [Act.put, sl1, sl2, sl3, i64_w, i32_w]
           rfl
          refine pure_ (i := 1) (N := some 31) (v := ?_) (a' := ?_) #[true, true, false, false, false, false, false, false, false, false, false, false, false, false, false, false, false, false, false, false, false, false, false, false, false, false, false, false, false] rfl rfl (any_of HT_.out (by kernel_rfl)) (fun _ _ _ h => h) (Or.inl ⟨by rfl, ?_⟩) ?_ ?_
          rotate_left
          ·intro w'
           go_simp
           with_reducible rfl
          rotate_left
          ·simp only [Act.put, sl1, sl2, sl3, i64_w, i32_w]
           rfl
          refine pure_ (i := 2) (N := some 32) (v := ?_) (a' := ?_) #[true, true, true, false, false, false, false, false, false, false, false, false, false, false, false, false, false, false, false, false, false, false, false, false, false, false, false, false, false] rfl rfl (any_of HT_.out (by kernel_rfl)) (fun _ _ _ h => h) (Or.inl ⟨by rfl, ?_⟩) ?_ ?_
          rotate_left
          ·intro w'
           go_simp
           with_reducible rfl
          rotate_left
          ·simp only [Act.put, sl1, sl2, sl3, i64_w, i32_w]
           rfl
          refine pure_ (i := 5) (N := some 35) (v := ?_) (a' := ?_) #[true, true, true, false, false, true, false, false, false, false, false, false, false, false, false, false, false, false, false, false, false, false, false, false, false, false, false, false, false] rfl rfl (any_of HT_.out (by kernel_rfl)) (fun _ _ _ h => h) (Or.inl ⟨by rfl, ?_⟩) ?_ ?_
          rotate_left
          ·intro w'
           go_simp
           with_reducible rfl
          rotate_left
          ·simp only [Act.put, sl1, sl2, sl3, i64_w, i32_w]
           rfl
          refine pure_ (i := 6) (N := some 36) (v := ?_) (a' := ?_) #[true, true, true, false, false, true, true, false, false, false, false, false, false, false, false, false, false, false, false, false, false, false, false, false, false, false, false, false, false] rfl rfl (any_of HT_.out (by kernel_rfl)) (fun _ _ _ h => h) (Or.inl ⟨by rfl, ?_⟩) ?_ ?_
          rotate_left
          ·intro w'
           go_simp
           with_reducible rfl
          rotate_left
          ·simp only [Act.put, sl1, sl2, sl3, i64_w, i32_w]
           rfl
          refine pure_ (i := 7) (N := some 37) (v := ?_) (a' := ?_) #[true, true, true, false, false, true, true, true, false, false, false, false, false, false, false, false, false, false, false, false, false, false, false, false, false, false, false, false, false] rfl rfl (any_of HT_.out (by kernel_rfl)) (fun _ _ _ h => h) (Or.inl ⟨by rfl, ?_⟩) ?_ ?_
          rotate_left
          ·intro w'
           go_simp
           with_reducible rfl
          rotate_left
          ·simp only [Act.put, sl1, sl2, sl3, i64_w, i32_w]
           rfl
          refine pure_ (i := 11) (N := some 41) (v := ?_) (a' := ?_) #[true, true, true, false, false, true, true, true, false, false, false, true, false, false, false, false, false, false, false, false, false, false, false, false, false, false, false, false, false] rfl rfl (any_of HT_.out (by kernel_rfl)) (fun _ _ _ h => h) (Or.inl ⟨by rfl, ?_⟩) ?_ ?_
          rotate_left
          ·intro w'
           go_simp
           with_reducible rfl
          rotate_left
          ·simp only [Act.put, sl1, sl2, sl3, i64_w, i32_w]
           rfl
          refine pure_ (i := 12) (N := some 42) (v := ?_) (a' := ?_) #[true, true, true, false, false, true, true, true, false, false, false, true, true, false, false, false, false, false, false, false, false, false, false, false, false, false, false, false, false] rfl rfl (any_of HT_.out (by kernel_rfl)) (fun _ _ _ h => h) (Or.inl ⟨by rfl, ?_⟩) ?_ ?_
          rotate_left
          ·intro w'
           go_simp
           with_reducible rfl
          rotate_left
          ·simp only [Act.put, sl1, sl2, sl3, i64_w, i32_w]
           rfl
          refine pure_ (i := 13) (N := some 43) (v := ?_) (a' := ?_) #[true, true, true, false, false, true, true, true, false, false, false, true, true, true, false, false, false, false, false, false, false, false, false, false, false, false, false, false, false] rfl rfl (any_of HT_.out (by kernel_rfl)) (fun _ _ _ h => h) (Or.inl ⟨by rfl, ?_⟩) ?_ ?_
          rotate_left
          ·intro w'
           go_simp
           with_reducible rfl
          rotate_left
          ·simp only [Act.put, sl1, sl2, sl3, i64_w, i32_w]
           rfl
          refine pure_ (i := 16) (N := some 46) (v := ?_) (a' := ?_) #[true, true, true, false, false, true, true, true, false, false, false, true, true, true, false, false, true, false, false, false, false, false, false, false, false, false, false, false, false] rfl rfl (any_of HT_.out (by kernel_rfl)) (fun _ _ _ h => h) (Or.inl ⟨by rfl, ?_⟩) ?_ ?_
          rotate_left
          ·intro w'
           go_simp
           with_reducible rfl
          rotate_left
          ·simp only [Act.put, sl1, sl2, sl3, i64_w, i32_w]
           rfl
          refine pure_ (i := 17) (N := some 47) (v := ?_) (a' := ?_) #[true, true, true, false, false, true, true, true, false, false, false, true, true, true, false, false, true, true, false, false, false, false, false, false, false, false, false, false, false] rfl rfl (any_of HT_.out (by kernel_rfl)) (fun _ _ _ h => h) (Or.inl ⟨by rfl, ?_⟩) ?_ ?_
          rotate_left
          ·intro w'
           go_simp
           with_reducible rfl
          rotate_left
          ·simp only [Act.put, sl1, sl2, sl3, i64_w, i32_w]
           rfl
          refine pure_ (i := 18) (N := some 48) (v := ?_) (a' := ?_) #[true, true, true, false, false, true, true, true, false, false, false, true, true, true, false, false, true, true, true, false, false, false, false, false, false, false, false, false, false] rfl rfl (any_of HT_.out (by kernel_rfl)) (fun _ _ _ h => h) (Or.inl ⟨by rfl, ?_⟩) ?_ ?_
          rotate_left
          ·intro w'
           go_simp
           with_reducible rfl
          rotate_left
          ·simp only [Act.put, sl1, sl2, sl3, i64_w, i32_w]
           rfl
          refine pure_ (i := 22) (N := some 52) (v := ?_) (a' := ?_) #[true, true, true, false, false, true, true, true, false, false, false, true, true, true, false, false, true, true, true, false, false, false, true, false, false, false, false, false, false] rfl rfl (any_of HT_.out (by kernel_rfl)) (fun _ _ _ h => h) (Or.inl ⟨by rfl, ?_⟩) ?_ ?_
          rotate_left
          ·intro w'
           go_simp
           with_reducible rfl
          rotate_left
          ·simp only [Act.put, sl1, sl2, sl3, i64_w, i32_w]
           rfl
          refine pure_ (i := 23) (N := some 53) (v := ?_) (a' := ?_) #[true, true, true, false, false, true, true, true, false, false, false, true, true, true, false, false, true, true, true, false, false, false, true, true, false, false, false, false, false] rfl rfl (any_of HT_.out (by kernel_rfl)) (fun _ _ _ h => h) (Or.inl ⟨by rfl, ?_⟩) ?_ ?_
          rotate_left
          ·intro w'
           go_simp
           with_reducible rfl
          rotate_left
          ·simp only [Act.put, sl1, sl2, sl3, i64_w, i32_w]
           rfl
          refine pure_ (i := 24) (N := some 54) (v := ?_) (a' := ?_) #[true, true, true, false, false, true, true, true, false, false, false, true, true, true, false, false, true, true, true, false, false, false, true, true, true, false, false, false, false] rfl rfl (any_of HT_.out (by kernel_rfl)) (fun _ _ _ h => h) (Or.inl ⟨by rfl, ?_⟩) ?_ ?_
          rotate_left
          ·intro w'
           go_simp
           with_reducible rfl
          rotate_left
          ·simp only [Act.put, sl1, sl2, sl3, i64_w, i32_w]
           rfl
          refine take_ (i := 3) (N := some 33) (v := ?_) (a' := ?_) #[true, true, true, true, false, true, true, true, false, false, false, true, true, true, false, false, true, true, true, false, false, false, true, true, true, false, false, false, false] rfl rfl (take_ofW HT_.out HW_.out (by kernel_rfl)) (fun _ _ _ h => h) (Or.inl ⟨by rfl, ?_⟩) hHeld ?_ ?_
          rotate_left
          ·rintro w' ⟨s0, s1, s2, s3, s4, s5, s6, s7, s8, s9, s10, s11, s12, s13, s14⟩
           go_simp
           with_reducible rfl
          rotate_left
          ·simp only [Act.put, sl1, sl2, sl3, i64_w, i32_w]
           rfl
          refine pure_ (i := 4) (N := some 34) (v := ?_) (a' := ?_) #[true, true, true, true, true, true, true, true, false, false, false, true, true, true, false, false, true, true, true, false, false, false, true, true, true, false, false, false, false] rfl rfl (any_of HT_.out (by kernel_rfl)) (fun _ _ _ h => h) (Or.inl ⟨by rfl, ?_⟩) ?_ ?_
          rotate_left
          ·intro w'
           go_simp
           with_reducible rfl
          rotate_left
          ·simp only [Act.put, sl1, sl2, sl3, i64_w, i32_w]
           rfl
          refine take_ (i := 8) (N := some 38) (v := ?_) (a' := ?_) #[true, true, true, true, true, true, true, true, true, false, false, true, true, true, false, false, true, true, true, false, false, false, true, true, true, false, false, false, false] rfl rfl (take_ofW HT_.out HW_.out (by kernel_rfl)) (fun _ _ _ h => h) (Or.inl ⟨by rfl, ?_⟩) hHeld ?_ ?_
          rotate_left
          ·rintro w' ⟨s0, s1, s2, s3, s4, s5, s6, s7, s8, s9, s10, s11, s12, s13, s14⟩
           go_simp
           with_reducible rfl
          rotate_left
          ·simp only [Act.put, sl1, sl2, sl3, i64_w, i32_w]
           rfl
          refine pure_ (i := 9) (N := some 39) (v := ?_) (a' := ?_) #[true, true, true, true, true, true, true, true, true, true, false, true, true, true, false, false, true, true, true, false, false, false, true, true, true, false, false, false, false] rfl rfl (any_of HT_.out (by kernel_rfl)) (fun _ _ _ h => h) (Or.inl ⟨by rfl, ?_⟩) ?_ ?_
          rotate_left
          ·intro w'
           go_simp
           with_reducible rfl
          rotate_left
          ·simp only [Act.put, sl1, sl2, sl3, i64_w, i32_w]
           rfl
          refine pure_ (i := 10) (N := some 40) (v := ?_) (a' := ?_) #[true, true, true, true, true, true, true, true, true, true, true, true, true, true, false, false, true, true, true, false, false, false, true, true, true, false, false, false, false] rfl rfl (any_of HT_.out (by kernel_rfl)) (fun _ _ _ h => h) (Or.inl ⟨by rfl, ?_⟩) ?_ ?_
          rotate_left
          ·intro w'
           go_simp
           with_reducible rfl
          rotate_left
          ·simp only [Act.put, sl1, sl2, sl3, i64_w, i32_w]
           rfl
          refine take_ (i := 14) (N := some 44) (v := ?_) (a' := ?_) #[true, true, true, true, true, true, true, true, true, true, true, true, true, true, true, false, true, true, true, false, false, false, true, true, true, false, false, false, false] rfl rfl (take_ofW HT_.out HW_.out (by kernel_rfl)) (fun _ _ _ h => h) (Or.inl ⟨by rfl, ?_⟩) hHeld ?_ ?_
          rotate_left
          ·rintro w' ⟨s0, s1, s2, s3, s4, s5, s6, s7, s8, s9, s10, s11, s12, s13, s14⟩
           go_simp
           with_reducible rfl
          rotate_left
          ·simp only [Act.put, sl1, sl2, sl3, i64_w, i32_w]
           rfl
          refine pure_ (i := 15) (N := some 45) (v := ?_) (a' := ?_) #[true, true, true, true, true, true, true, true, true, true, true, true, true, true, true, true, true, true, true, false, false, false, true, true, true, false, false, false, false] rfl rfl (any_of HT_.out (by kernel_rfl)) (fun _ _ _ h => h) (Or.inl ⟨by rfl, ?_⟩) ?_ ?_
          rotate_left
          ·intro w'
           go_simp
           with_reducible rfl
          rotate_left
          ·simp only [Act.put, sl1, sl2, sl3, i64_w, i32_w]
           rfl
          refine take_ (i := 19) (N := some 49) (v := ?_) (a' := ?_) #[true, true, true, true, true, true, true, true, true, true, true, true, true, true, true, true, true, true, true, true, false, false, true, true, true, false, false, false, false] rfl rfl (take_ofW HT_.out HW_.out (by kernel_rfl)) (fun _ _ _ h => h) (Or.inl ⟨by rfl, ?_⟩) hHeld ?_ ?_
          rotate_left
          ·rintro w' ⟨s0, s1, s2, s3, s4, s5, s6, s7, s8, s9, s10, s11, s12, s13, s14⟩
           go_simp
           with_reducible rfl
          rotate_left
          ·simp only [Act.put, sl1, sl2, sl3, i64_w, i32_w]
           rfl
          refine pure_ (i := 20) (N := some 50) (v := ?_) (a' := ?_) #[true, true, true, true, true, true, true, true, true, true, true, true, true, true, true, true, true, true, true, true, true, false, true, true, true, false, false, false, false] rfl rfl (any_of HT_.out (by kernel_rfl)) (fun _ _ _ h => h) (Or.inl ⟨by rfl, ?_⟩) ?_ ?_
          rotate_left
          ·intro w'
           go_simp
           with_reducible rfl
          rotate_left
          ·simp only [Act.put, sl1, sl2, sl3, i64_w, i32_w]
           rfl
          refine pure_ (i := 21) (N := some 51) (v := ?_) (a' := ?_) #[true, true, true, true, true, true, true, true, true, true, true, true, true, true, true, true, true, true, true, true, true, true, true, true, true, false, false, false, false] rfl rfl (any_of HT_.out (by kernel_rfl)) (fun _ _ _ h => h) (Or.inl ⟨by rfl, ?_⟩) ?_ ?_
          rotate_left
          ·intro w'
           go_simp
           with_reducible rfl
          rotate_left
          ·simp only [Act.put, sl1, sl2, sl3, i64_w, i32_w]
           rfl
          refine take_ (i := 25) (N := some 55) (v := ?_) (a' := ?_) #[true, true, true, true, true, true, true, true, true, true, true, true, true, true, true, true, true, true, true, true, true, true, true, true, true, true, false, false, false] rfl rfl (take_ofW HT_.out HW_.out (by kernel_rfl)) (fun _ _ _ h => h) (Or.inl ⟨by rfl, ?_⟩) hHeld ?_ ?_
          rotate_left
          ·rintro w' ⟨s0, s1, s2, s3, s4, s5, s6, s7, s8, s9, s10, s11, s12, s13, s14⟩
           go_simp
           with_reducible rfl
          rotate_left
          ·simp only [Act.put, sl1, sl2, sl3, i64_w, i32_w]
           rfl
          refine pure_ (i := 26) (N := some 56) (v := ?_) (a' := ?_) #[true, true, true, true, true, true, true, true, true, true, true, true, true, true, true, true, true, true, true, true, true, true, true, true, true, true, true, false, false] rfl rfl (any_of HT_.out (by kernel_rfl)) (fun _ _ _ h => h) (Or.inl ⟨by rfl, ?_⟩) ?_ ?_
          rotate_left
          ·intro w'
           go_simp
           with_reducible rfl
          rotate_left
          ·simp only [Act.put, sl1, sl2, sl3, i64_w, i32_w]
           rfl
          refine one_ (i := 27) (N := some 6) #[true, true, true, true, true, true, true, true, true, true, true, true, true, true, true, true, true, true, true, true, true, true, true, true, true, true, true, true, false] rfl rfl (one_of HT_.out (by kernel_rfl)) (by decide) (fun K hK => ?_)
          refine box_step ?hg (N := 6) ?hd (cs := #[.int .i64 0, .int .i64 0, .int .i64 0, .int .i64 0, .string (⟨#[]⟩ : ByteArray)]) (t := 25) ?hr ?_; (case hd => rfl); (case hg => rfl); (case hr => first | (go_simp; done) | (go_simp; rfl))
          intro gb333 hg w25 hbox hb
          have HS0_ := (hb.cell (World.block_lt_of_cell? _ _ (hHeld.1))).trans (hHeld.1)
          have HS1_ := (hb.cell (World.block_lt_of_cell? _ _ (hHeld.2.1))).trans (hHeld.2.1)
          have HS2_ := (hb.cell (World.block_lt_of_cell? _ _ (hHeld.2.2.1))).trans (hHeld.2.2.1)
          have HS3_ := (hb.cell (World.block_lt_of_cell? _ _ (hHeld.2.2.2.1))).trans (hHeld.2.2.2.1)
          have HS4_ := (hb.cell (World.block_lt_of_cell? _ _ (hHeld.2.2.2.2.1))).trans (hHeld.2.2.2.2.1)
          have HS5_ := (hb.cell (World.block_lt_of_cell? _ _ (hHeld.2.2.2.2.2.1))).trans (hHeld.2.2.2.2.2.1)
          have HS6_ := (hb.cell (World.block_lt_of_cell? _ _ (hHeld.2.2.2.2.2.2.1))).trans (hHeld.2.2.2.2.2.2.1)
          have HS7_ := (hb.cell (World.block_lt_of_cell? _ _ (hHeld.2.2.2.2.2.2.2.1))).trans (hHeld.2.2.2.2.2.2.2.1)
          have HS8_ := (hb.cell (World.block_lt_of_cell? _ _ (hHeld.2.2.2.2.2.2.2.2.1))).trans (hHeld.2.2.2.2.2.2.2.2.1)
          have HS9_ := (hb.cell (World.block_lt_of_cell? _ _ (hHeld.2.2.2.2.2.2.2.2.2.1))).trans (hHeld.2.2.2.2.2.2.2.2.2.1)
          have HS10_ := (hb.cell (World.block_lt_of_cell? _ _ (hHeld.2.2.2.2.2.2.2.2.2.2.1))).trans (hHeld.2.2.2.2.2.2.2.2.2.2.1)
          have HS11_ := (hb.cell (World.block_lt_of_cell? _ _ (hHeld.2.2.2.2.2.2.2.2.2.2.2.1))).trans (hHeld.2.2.2.2.2.2.2.2.2.2.2.1)
          have HS12_ := (hb.cell (World.block_lt_of_cell? _ _ (hHeld.2.2.2.2.2.2.2.2.2.2.2.2.1))).trans (hHeld.2.2.2.2.2.2.2.2.2.2.2.2.1)
          have HS13_ := (hb.cell (World.block_lt_of_cell? _ _ (hHeld.2.2.2.2.2.2.2.2.2.2.2.2.2.1))).trans (hHeld.2.2.2.2.2.2.2.2.2.2.2.2.2.1)
          have HS14_ := (hb.cell (World.block_lt_of_cell? _ _ (hHeld.2.2.2.2.2.2.2.2.2.2.2.2.2.2))).trans (hHeld.2.2.2.2.2.2.2.2.2.2.2.2.2.2)
          have n0_ := Aside0.mk (Kd.R_below (by (with_reducible repeat (first | apply Kd.R_alloc | apply Kd.R_drewN | apply Kd.R_drew)); exact HO325.out) hb)
          have n1_ := Aside0.mk (nb BK321.out hb)
          have n2_ := Aside0.mk (below_step bw hb)
          have n3_ := Aside0.mk (hbox)
          have n4_ := Aside0.mk ((g1 hg bw : w.heap.size ≤ gb333))
          have n5_ := Aside0.mk ((g1 hg bw : w.heap.size ≤ gb333))
          have n6_ := Aside0.mk ((n1 hg BK321.out : gb321 ≠ gb333))
          have n7_ := Aside0.mk ((n2 hg BK321.out : gb333 ≠ gb321))
          clear HO325
          clear BK321
          clear HB
          have HO325 := n0_
          have BK321 := n1_
          have HB := n2_
          have BK333 := n3_
          have GW333 := n4_
          have GE333 := n5_
          have NB321_333 := n6_
          have NB333_321 := n7_
          clear n0_ n1_ n2_ n3_ n4_ n5_ n6_ n7_
          clear hb hbox hg
          refine hK.out _ _ ⟨HS0_, HS1_, HS2_, HS3_, HS4_, HS5_, HS6_, HS7_, HS8_, HS9_, HS10_, HS11_, HS12_, HS13_, HS14_⟩ (fun hHeld => ?_)
          clear hK K
          refine norm_ (a' := ?_) ?_ ?_
          rotate_left
          ·show Act.put _ (some 6) _ = _
           simp only [Act.put, sl1, sl2, sl3, i64_w, i32_w]
           rfl
          refine one_ (i := 28) (N := none) #[true, true, true, true, true, true, true, true, true, true, true, true, true, true, true, true, true, true, true, true, true, true, true, true, true, true, true, true, true] rfl rfl (one_of HT_.out (by kernel_rfl)) (by decide) (fun K hK => ?_)
          have hs26 : w25.cell? ⟨gb333, 0, none⟩ = some (.int .i64 0) := (blk_cell BK333.out 0).trans rfl
          have hfs26 := blk_frozen BK333.out 0
          have hns26_0 := NB321_333.out
          have hms26_0 := NB333_321.out
          have hs27 : w25.cell? ⟨gb333, 1, none⟩ = some (.int .i64 0) := (blk_cell BK333.out 1).trans rfl
          have hfs27 := blk_frozen BK333.out 1
          have hns27_0 := NB321_333.out
          have hms27_0 := NB333_321.out
          have hs28 : w25.cell? ⟨gb333, 2, none⟩ = some (.int .i64 0) := (blk_cell BK333.out 2).trans rfl
          have hfs28 := blk_frozen BK333.out 2
          have hns28_0 := NB321_333.out
          have hms28_0 := NB333_321.out
          have hs29 : w25.cell? ⟨gb333, 3, none⟩ = some (.int .i64 0) := (blk_cell BK333.out 3).trans rfl
          have hfs29 := blk_frozen BK333.out 3
          have hns29_0 := NB321_333.out
          have hms29_0 := NB333_321.out
          have hs30 : w25.cell? ⟨gb333, 4, none⟩ = some (.string (⟨#[]⟩ : ByteArray)) := (blk_cell BK333.out 4).trans rfl
          have hfs30 := blk_frozen BK333.out 4
          have hns30_0 := NB321_333.out
          have hms30_0 := NB333_321.out
          refine skip_ (w1 := ?_) (by rfl) rfl ?_ ?_
          rotate_left
          ·go_simp
           rfl
          refine hK.out _ _ ⟨((cf (p := ⟨gb333, _, none⟩) (Kd.own_blk (Kd.R_ne HO325.out BK333.out (by decide)))).trans (((cf (p := ⟨gb333, _, none⟩) (Kd.own_blk (Kd.R_ne HO325.out BK333.out (by decide)))).trans (((cf (p := ⟨gb333, _, none⟩) (Kd.own_blk (Kd.R_ne HO325.out BK333.out (by decide)))).trans (((cf (p := ⟨gb333, _, none⟩) (Kd.own_blk (Kd.R_ne HO325.out BK333.out (by decide)))).trans (((cf (p := ⟨gb333, _, none⟩) (Kd.own_blk (Kd.R_ne HO325.out BK333.out (by decide)))).trans (hHeld.1)))))))))), ((cf (p := ⟨gb333, _, none⟩) (Kd.own_blk (Kd.R_ne HO325.out BK333.out (by decide)))).trans (((cf (p := ⟨gb333, _, none⟩) (Kd.own_blk (Kd.R_ne HO325.out BK333.out (by decide)))).trans (((cf (p := ⟨gb333, _, none⟩) (Kd.own_blk (Kd.R_ne HO325.out BK333.out (by decide)))).trans (((cf (p := ⟨gb333, _, none⟩) (Kd.own_blk (Kd.R_ne HO325.out BK333.out (by decide)))).trans (((cf (p := ⟨gb333, _, none⟩) (Kd.own_blk (Kd.R_ne HO325.out BK333.out (by decide)))).trans (hHeld.2.1)))))))))), ((cf (p := ⟨gb333, _, none⟩) (Kd.own_blk (Kd.R_ne HO325.out BK333.out (by decide)))).trans (((cf (p := ⟨gb333, _, none⟩) (Kd.own_blk (Kd.R_ne HO325.out BK333.out (by decide)))).trans (((cf (p := ⟨gb333, _, none⟩) (Kd.own_blk (Kd.R_ne HO325.out BK333.out (by decide)))).trans (((cf (p := ⟨gb333, _, none⟩) (Kd.own_blk (Kd.R_ne HO325.out BK333.out (by decide)))).trans (((cf (p := ⟨gb333, _, none⟩) (Kd.own_blk (Kd.R_ne HO325.out BK333.out (by decide)))).trans (hHeld.2.2.1)))))))))), ((cf (p := ⟨gb333, _, none⟩) (Kd.own_blk (Kd.R_ne HO325.out BK333.out (by decide)))).trans (((cf (p := ⟨gb333, _, none⟩) (Kd.own_blk (Kd.R_ne HO325.out BK333.out (by decide)))).trans (((cf (p := ⟨gb333, _, none⟩) (Kd.own_blk (Kd.R_ne HO325.out BK333.out (by decide)))).trans (((cf (p := ⟨gb333, _, none⟩) (Kd.own_blk (Kd.R_ne HO325.out BK333.out (by decide)))).trans (((cf (p := ⟨gb333, _, none⟩) (Kd.own_blk (Kd.R_ne HO325.out BK333.out (by decide)))).trans (hHeld.2.2.2.1)))))))))), ((cf (p := ⟨gb333, _, none⟩) (Kd.own_blk (Kd.R_ne HO325.out BK333.out (by decide)))).trans (((cf (p := ⟨gb333, _, none⟩) (Kd.own_blk (Kd.R_ne HO325.out BK333.out (by decide)))).trans (((cf (p := ⟨gb333, _, none⟩) (Kd.own_blk (Kd.R_ne HO325.out BK333.out (by decide)))).trans (((cf (p := ⟨gb333, _, none⟩) (Kd.own_blk (Kd.R_ne HO325.out BK333.out (by decide)))).trans (((cf (p := ⟨gb333, _, none⟩) (Kd.own_blk (Kd.R_ne HO325.out BK333.out (by decide)))).trans (hHeld.2.2.2.2.1)))))))))), ((cf (p := ⟨gb333, _, none⟩) (Kd.own_blk (Kd.R_ne HO325.out BK333.out (by decide)))).trans (((cf (p := ⟨gb333, _, none⟩) (Kd.own_blk (Kd.R_ne HO325.out BK333.out (by decide)))).trans (((cf (p := ⟨gb333, _, none⟩) (Kd.own_blk (Kd.R_ne HO325.out BK333.out (by decide)))).trans (((cf (p := ⟨gb333, _, none⟩) (Kd.own_blk (Kd.R_ne HO325.out BK333.out (by decide)))).trans (((cf (p := ⟨gb333, _, none⟩) (Kd.own_blk (Kd.R_ne HO325.out BK333.out (by decide)))).trans (hHeld.2.2.2.2.2.1)))))))))), ((cf (p := ⟨gb333, _, none⟩) (Kd.own_blk (Kd.R_ne HO325.out BK333.out (by decide)))).trans (((cf (p := ⟨gb333, _, none⟩) (Kd.own_blk (Kd.R_ne HO325.out BK333.out (by decide)))).trans (((cf (p := ⟨gb333, _, none⟩) (Kd.own_blk (Kd.R_ne HO325.out BK333.out (by decide)))).trans (((cf (p := ⟨gb333, _, none⟩) (Kd.own_blk (Kd.R_ne HO325.out BK333.out (by decide)))).trans (((cf (p := ⟨gb333, _, none⟩) (Kd.own_blk (Kd.R_ne HO325.out BK333.out (by decide)))).trans (hHeld.2.2.2.2.2.2.1)))))))))), ((cf (p := ⟨gb333, _, none⟩) (Kd.own_blk (Kd.R_ne HO325.out BK333.out (by decide)))).trans (((cf (p := ⟨gb333, _, none⟩) (Kd.own_blk (Kd.R_ne HO325.out BK333.out (by decide)))).trans (((cf (p := ⟨gb333, _, none⟩) (Kd.own_blk (Kd.R_ne HO325.out BK333.out (by decide)))).trans (((cf (p := ⟨gb333, _, none⟩) (Kd.own_blk (Kd.R_ne HO325.out BK333.out (by decide)))).trans (((cf (p := ⟨gb333, _, none⟩) (Kd.own_blk (Kd.R_ne HO325.out BK333.out (by decide)))).trans (hHeld.2.2.2.2.2.2.2.1)))))))))), ((cf (p := ⟨gb333, _, none⟩) (Kd.own_blk (Kd.R_ne HO325.out BK333.out (by decide)))).trans (((cf (p := ⟨gb333, _, none⟩) (Kd.own_blk (Kd.R_ne HO325.out BK333.out (by decide)))).trans (((cf (p := ⟨gb333, _, none⟩) (Kd.own_blk (Kd.R_ne HO325.out BK333.out (by decide)))).trans (((cf (p := ⟨gb333, _, none⟩) (Kd.own_blk (Kd.R_ne HO325.out BK333.out (by decide)))).trans (((cf (p := ⟨gb333, _, none⟩) (Kd.own_blk (Kd.R_ne HO325.out BK333.out (by decide)))).trans (hHeld.2.2.2.2.2.2.2.2.1)))))))))), ((cf (p := ⟨gb333, _, none⟩) (Kd.own_blk (Kd.R_ne HO325.out BK333.out (by decide)))).trans (((cf (p := ⟨gb333, _, none⟩) (Kd.own_blk (Kd.R_ne HO325.out BK333.out (by decide)))).trans (((cf (p := ⟨gb333, _, none⟩) (Kd.own_blk (Kd.R_ne HO325.out BK333.out (by decide)))).trans (((cf (p := ⟨gb333, _, none⟩) (Kd.own_blk (Kd.R_ne HO325.out BK333.out (by decide)))).trans (((cf (p := ⟨gb333, _, none⟩) (Kd.own_blk (Kd.R_ne HO325.out BK333.out (by decide)))).trans (hHeld.2.2.2.2.2.2.2.2.2.1)))))))))), ((cf (p := ⟨gb333, _, none⟩) (Kd.own_blk (Kd.R_ne HO325.out BK333.out (by decide)))).trans (((cf (p := ⟨gb333, _, none⟩) (Kd.own_blk (Kd.R_ne HO325.out BK333.out (by decide)))).trans (((cf (p := ⟨gb333, _, none⟩) (Kd.own_blk (Kd.R_ne HO325.out BK333.out (by decide)))).trans (((cf (p := ⟨gb333, _, none⟩) (Kd.own_blk (Kd.R_ne HO325.out BK333.out (by decide)))).trans (((cf (p := ⟨gb333, _, none⟩) (Kd.own_blk (Kd.R_ne HO325.out BK333.out (by decide)))).trans (hHeld.2.2.2.2.2.2.2.2.2.2.1)))))))))), ((cf (p := ⟨gb333, _, none⟩) (Kd.own_blk (Kd.R_ne HO325.out BK333.out (by decide)))).trans (((cf (p := ⟨gb333, _, none⟩) (Kd.own_blk (Kd.R_ne HO325.out BK333.out (by decide)))).trans (((cf (p := ⟨gb333, _, none⟩) (Kd.own_blk (Kd.R_ne HO325.out BK333.out (by decide)))).trans (((cf (p := ⟨gb333, _, none⟩) (Kd.own_blk (Kd.R_ne HO325.out BK333.out (by decide)))).trans (((cf (p := ⟨gb333, _, none⟩) (Kd.own_blk (Kd.R_ne HO325.out BK333.out (by decide)))).trans (hHeld.2.2.2.2.2.2.2.2.2.2.2.1)))))))))), ((cf (p := ⟨gb333, _, none⟩) (Kd.own_blk (Kd.R_ne HO325.out BK333.out (by decide)))).trans (((cf (p := ⟨gb333, _, none⟩) (Kd.own_blk (Kd.R_ne HO325.out BK333.out (by decide)))).trans (((cf (p := ⟨gb333, _, none⟩) (Kd.own_blk (Kd.R_ne HO325.out BK333.out (by decide)))).trans (((cf (p := ⟨gb333, _, none⟩) (Kd.own_blk (Kd.R_ne HO325.out BK333.out (by decide)))).trans (((cf (p := ⟨gb333, _, none⟩) (Kd.own_blk (Kd.R_ne HO325.out BK333.out (by decide)))).trans (hHeld.2.2.2.2.2.2.2.2.2.2.2.2.1)))))))))), ((cf (p := ⟨gb333, _, none⟩) (Kd.own_blk (Kd.R_ne HO325.out BK333.out (by decide)))).trans (((cf (p := ⟨gb333, _, none⟩) (Kd.own_blk (Kd.R_ne HO325.out BK333.out (by decide)))).trans (((cf (p := ⟨gb333, _, none⟩) (Kd.own_blk (Kd.R_ne HO325.out BK333.out (by decide)))).trans (((cf (p := ⟨gb333, _, none⟩) (Kd.own_blk (Kd.R_ne HO325.out BK333.out (by decide)))).trans (((cf (p := ⟨gb333, _, none⟩) (Kd.own_blk (Kd.R_ne HO325.out BK333.out (by decide)))).trans (hHeld.2.2.2.2.2.2.2.2.2.2.2.2.2.1)))))))))), ((cf (p := ⟨gb333, _, none⟩) (Kd.own_blk (Kd.R_ne HO325.out BK333.out (by decide)))).trans (((cf (p := ⟨gb333, _, none⟩) (Kd.own_blk (Kd.R_ne HO325.out BK333.out (by decide)))).trans (((cf (p := ⟨gb333, _, none⟩) (Kd.own_blk (Kd.R_ne HO325.out BK333.out (by decide)))).trans (((cf (p := ⟨gb333, _, none⟩) (Kd.own_blk (Kd.R_ne HO325.out BK333.out (by decide)))).trans (((cf (p := ⟨gb333, _, none⟩) (Kd.own_blk (Kd.R_ne HO325.out BK333.out (by decide)))).trans (hHeld.2.2.2.2.2.2.2.2.2.2.2.2.2.2))))))))))⟩ (fun hHeld => ?_)
          clear hK K
          refine done_ (done_of HT_.out (by kernel_rfl)) ?_
          have hnb31 := NB333_321.out
          have hnc31 := NB321_333.out
          have hcz32_0 := bc5_0 BK333.out
          have hcz32_1 := bc5_1 BK333.out
          have hcz32_2 := bc5_2 BK333.out
          have hcz32_3 := bc5_3 BK333.out
          have hcz32_4 := bc5_4 BK333.out
          have hfz32_0 := blk_frozen BK333.out 0
          have hfz32_1 := blk_frozen BK333.out 1
          have hfz32_2 := blk_frozen BK333.out 2
          have hfz32_3 := blk_frozen BK333.out 3
          have hfz32_4 := blk_frozen BK333.out 4
          try go_wp2_with (first | ((with_reducible refine gate_callee (f := 17) rfl ?_); refine goesL_ (some 58) rfl rfl Tryd.func17 (by kernel_rfl) rfl #[.agg #[.int .i64 (wrap64 ((rd_T51 t322 0).f1)), .int .i64 (wrap64 ((rd_T51 t322 1).f1)), .int .i64 (wrap64 ((rd_T51 t322 2).f1)), .int .i64 (wrap64 ((rd_T51 t322 3).f1)), .string ((rd_T51 t322 4).f2)]] rfl am ?_; (with_reducible refine (carillonref10_RightAcceptor.calls (wrap64 ((rd_T51 t322 0).f1)) (wrap64 ((rd_T51 t322 1).f1)) (wrap64 ((rd_T51 t322 2).f1)) (wrap64 ((rd_T51 t322 3).f1)) ((rd_T51 t322 4).f2) true _ A19.out).mono ?_); rintro e w33 ⟨rfl, hb⟩; refine ⟨_, rfl, ?_⟩; have n0_ := Aside0.mk (Kd.R_below (by (with_reducible repeat (first | apply Kd.R_alloc | apply Kd.R_drewN | apply Kd.R_drew)); exact (Kd.R_mono (Kd.R_far (p := ⟨gb333, 4, none⟩) (Kd.R_far (p := ⟨gb333, 3, none⟩) (Kd.R_far (p := ⟨gb333, 2, none⟩) (Kd.R_far (p := ⟨gb333, 1, none⟩) (Kd.R_far (p := ⟨gb333, 0, none⟩) (Kd.R_types HO325.out BK333.out (by decide)) (fun _ hk => hk.2) (.int .i64 (wrap64 ((rd_T51 t322 0).f1)))) (fun _ hk => hk.2) (.int .i64 (wrap64 ((rd_T51 t322 1).f1)))) (fun _ hk => hk.2) (.int .i64 (wrap64 ((rd_T51 t322 2).f1)))) (fun _ hk => hk.2) (.int .i64 (wrap64 ((rd_T51 t322 3).f1)))) (fun _ hk => hk.2) (.string ((rd_T51 t322 4).f2))) (fun _ h_ => h_.1))) hb); have n1_ := Aside0.mk (blk_below (g := gb321) (o := .cells #[.int .i64 0, .int .i64 0, .int .i64 0, .int .i64 0, .string (⟨#[]⟩ : ByteArray)] 25 (0, 0)) (by (with_reducible repeat (first | refine blk_drewN ?_ _ | refine blk_drew ?_ | refine blk_alloc ?_ _ | refine blk_far ?_ NB321_333.out _)); exact BK321.out) hb); have n2_ := Aside0.mk (blk_below (g := gb333) (o := .cells #[.int .i64 (wrap64 ((rd_T51 t322 0).f1)), .int .i64 (wrap64 ((rd_T51 t322 1).f1)), .int .i64 (wrap64 ((rd_T51 t322 2).f1)), .int .i64 (wrap64 ((rd_T51 t322 3).f1)), .string ((rd_T51 t322 4).f2)] 25 (0, 0)) (by (with_reducible repeat (first | refine blk_drewN ?_ _ | refine blk_drew ?_ | refine blk_alloc ?_ _)); refine blk_put (cs := #[.int .i64 (wrap64 ((rd_T51 t322 0).f1)), .int .i64 (wrap64 ((rd_T51 t322 1).f1)), .int .i64 (wrap64 ((rd_T51 t322 2).f1)), .int .i64 (wrap64 ((rd_T51 t322 3).f1)), .string (⟨#[]⟩ : ByteArray)]) ?_ 4 _ rfl; (with_reducible repeat (first | refine blk_drewN ?_ _ | refine blk_drew ?_ | refine blk_alloc ?_ _)); refine blk_put (cs := #[.int .i64 (wrap64 ((rd_T51 t322 0).f1)), .int .i64 (wrap64 ((rd_T51 t322 1).f1)), .int .i64 (wrap64 ((rd_T51 t322 2).f1)), .int .i64 0, .string (⟨#[]⟩ : ByteArray)]) ?_ 3 _ rfl; (with_reducible repeat (first | refine blk_drewN ?_ _ | refine blk_drew ?_ | refine blk_alloc ?_ _)); refine blk_put (cs := #[.int .i64 (wrap64 ((rd_T51 t322 0).f1)), .int .i64 (wrap64 ((rd_T51 t322 1).f1)), .int .i64 0, .int .i64 0, .string (⟨#[]⟩ : ByteArray)]) ?_ 2 _ rfl; (with_reducible repeat (first | refine blk_drewN ?_ _ | refine blk_drew ?_ | refine blk_alloc ?_ _)); refine blk_put (cs := #[.int .i64 (wrap64 ((rd_T51 t322 0).f1)), .int .i64 0, .int .i64 0, .int .i64 0, .string (⟨#[]⟩ : ByteArray)]) ?_ 1 _ rfl; (with_reducible repeat (first | refine blk_drewN ?_ _ | refine blk_drew ?_ | refine blk_alloc ?_ _)); refine blk_put (cs := #[.int .i64 0, .int .i64 0, .int .i64 0, .int .i64 0, .string (⟨#[]⟩ : ByteArray)]) ?_ 0 _ rfl; (with_reducible repeat (first | refine blk_drewN ?_ _ | refine blk_drew ?_ | refine blk_alloc ?_ _)); exact BK333.out) hb); have n3_ := Aside0.mk (below_step bw hb); clear HO325; clear BK321; clear BK333; clear HB; have HO325 := n0_; have BK321 := n1_; have BK333 := n2_; have HB := n3_; clear n0_ n1_ n2_ n3_; (try clear hb); (try clear hb2); (try clear hk); (try clear hi); have hcz34_0 := bc5_0 BK333.out; have hcz34_1 := bc5_1 BK333.out; have hcz34_2 := bc5_2 BK333.out; have hcz34_3 := bc5_3 BK333.out; have hcz34_4 := bc5_4 BK333.out; have hfz34_0 := blk_frozen BK333.out 0; have hfz34_1 := blk_frozen BK333.out 1; have hfz34_2 := blk_frozen BK333.out 2; have hfz34_3 := blk_frozen BK333.out 3; have hfz34_4 := blk_frozen BK333.out 4; have hcz35_0 := bc5_0 BK321.out; have hcz35_1 := bc5_1 BK321.out; have hcz35_2 := bc5_2 BK321.out; have hcz35_3 := bc5_3 BK321.out; have hcz35_4 := bc5_4 BK321.out; have hfz35_0 := blk_frozen BK321.out 0; have hfz35_1 := blk_frozen BK321.out 1; have hfz35_2 := blk_frozen BK321.out 2; have hfz35_3 := blk_frozen BK321.out 3; have hfz35_4 := blk_frozen BK321.out 4))
          refine bodyPost_ret (results_ct rfl _ _ gb321 25 #[.int .i64 (wrap64 ((rd_T51 t322 0).f1)), .int .i64 (wrap64 ((rd_T51 t322 1).f1)), .int .i64 (wrap64 ((rd_T51 t322 2).f1)), .int .i64 (wrap64 ((rd_T51 t322 3).f1)), .string ((rd_T51 t322 4).f2)] (0, 0) _ rfl (by (with_reducible repeat (first | refine blk_drewN ?_ _ | refine blk_drew ?_ | refine blk_alloc ?_ _)); refine blk_put (cs := #[.int .i64 (wrap64 ((rd_T51 t322 0).f1)), .int .i64 (wrap64 ((rd_T51 t322 1).f1)), .int .i64 (wrap64 ((rd_T51 t322 2).f1)), .int .i64 (wrap64 ((rd_T51 t322 3).f1)), .string (⟨#[]⟩ : ByteArray)]) ?_ 4 _ rfl; (with_reducible repeat (first | refine blk_drewN ?_ _ | refine blk_drew ?_ | refine blk_alloc ?_ _)); refine blk_put (cs := #[.int .i64 (wrap64 ((rd_T51 t322 0).f1)), .int .i64 (wrap64 ((rd_T51 t322 1).f1)), .int .i64 (wrap64 ((rd_T51 t322 2).f1)), .int .i64 0, .string (⟨#[]⟩ : ByteArray)]) ?_ 3 _ rfl; (with_reducible repeat (first | refine blk_drewN ?_ _ | refine blk_drew ?_ | refine blk_alloc ?_ _)); refine blk_put (cs := #[.int .i64 (wrap64 ((rd_T51 t322 0).f1)), .int .i64 (wrap64 ((rd_T51 t322 1).f1)), .int .i64 0, .int .i64 0, .string (⟨#[]⟩ : ByteArray)]) ?_ 2 _ rfl; (with_reducible repeat (first | refine blk_drewN ?_ _ | refine blk_drew ?_ | refine blk_alloc ?_ _)); refine blk_put (cs := #[.int .i64 (wrap64 ((rd_T51 t322 0).f1)), .int .i64 0, .int .i64 0, .int .i64 0, .string (⟨#[]⟩ : ByteArray)]) ?_ 1 _ rfl; (with_reducible repeat (first | refine blk_drewN ?_ _ | refine blk_drew ?_ | refine blk_alloc ?_ _)); refine blk_put (cs := #[.int .i64 0, .int .i64 0, .int .i64 0, .int .i64 0, .string (⟨#[]⟩ : ByteArray)]) ?_ 0 _ rfl; (with_reducible repeat (first | refine blk_drewN ?_ _ | refine blk_drew ?_ | refine blk_alloc ?_ _)); exact BK321.out) Tryd.underlying25 rfl (by kernel_rfl)) rfl ?_
          exact ⟨er, bw⟩
         ·replace c20 := Bool.eq_false_iff.mpr c20
          subst c20
          have H1 : (some (0, 0, 0, 0, (⟨#[]⟩ : ByteArray), 10)) = some (r1, r2, r3, r4, r5, r6) := by rw [if_neg (show ¬ (false = true) by decide)] at H; exact H
          clear H
          have H := H1
          clear H1
          simp only [Option.some.injEq, Prod.mk.injEq] at H
          obtain ⟨rfl, rfl, rfl, rfl, rfl, rfl⟩ := H
          go_enter Tryd.func10, Tryd.ntmps10
          try go_wp2_with (first | ((with_reducible refine gate_dst (N := 2) rfl ?_); refine box_event ?hg (N := 2) ?hd (cs := #[.int .i64 0, .int .i64 0, .int .i64 0, .int .i64 0, .string (⟨#[]⟩ : ByteArray)]) (t := 25) ?hr ?_; (case hd => rfl); (case hg => rfl); (case hr => first | (go_simp; done) | (go_simp; rfl)); intro gb321 hg w36 hbox hb; have n0_ := Aside0.mk (below_step bw hb); have n1_ := Aside0.mk (hbox); have n2_ := Aside0.mk ((g1 hg bw : w.heap.size ≤ gb321)); have n3_ := Aside0.mk ((g1 hg bw : w.heap.size ≤ gb321)); clear HB; have HB := n0_; have BK321 := n1_; have GW321 := n2_; have GE321 := n3_; clear n0_ n1_ n2_ n3_; clear hb hbox hg) | ((with_reducible refine gate_callee (f := 20) rfl ?_); refine goesL_ (some 10) rfl rfl Tryd.func20 (by kernel_rfl) rfl #[.string (⟨#[108, 98, 108, 98, 116]⟩ : ByteArray), .string a0] rfl am ?_; (with_reducible refine (carillonref01_Decode.calls k (⟨#[108, 98, 108, 98, 116]⟩ : ByteArray) a0 t322 t323 _ A2.out).mono ?_); rintro e w37 ⟨v324, rfl, ho0, hb⟩; refine ⟨_, rfl, ?_⟩; have n0_ := Aside0.mk (Kd.R_lower ho0 (below_size bw)); have n1_ := Aside0.mk (nb BK321.out hb); have n2_ := Aside0.mk (below_step bw hb); clear BK321; clear HB; have HO325 := n0_; have BK321 := n1_; have HB := n2_; clear n0_ n1_ n2_; (try clear hb); (try clear hb2); (try clear hk); (try clear hi); (try clear ho0); obtain ⟨Ao38, co38, eo38⟩ := Kd.R_slice HO325.out; subst eo38; have p326 : 0 ≤ (0 : Int) := (by omega); have q326 : 0 < (t322.length : Int) := of_decide_eq_true (by first | (with_reducible assumption) | assumption); obtain ⟨ad326, e326, hx326_0, hx326_1, hx326_2⟩ := at_T51 (Kd.R_reads' HO325.out).2.2 0 p326 q326; cases e326; have qi326 : (0 < t322.length) = True := eq_true (by omega); (try rw [show ((0 : Int)).toNat = 0 from rfl] at hx326_0); (try rw [show 0 * 3 = 0 from rfl] at hx326_0); (try rw [Addr.add_zero'] at hx326_0); (try rw [show ((0 : Int)).toNat = 0 from rfl] at hx326_1); (try rw [show 0 * 3 = 0 from rfl] at hx326_1); (try rw [Addr.add_zero'] at hx326_1); (try rw [show ((0 : Int)).toNat = 0 from rfl] at hx326_2); (try rw [show 0 * 3 = 0 from rfl] at hx326_2); (try rw [Addr.add_zero'] at hx326_2); replace p326 := eq_true p326; replace q326 := eq_true q326; have p327 : 0 ≤ (2 : Int) := (by omega); have q327 : 2 < (t322.length : Int) := of_decide_eq_true (by first | (with_reducible assumption) | assumption); obtain ⟨ad327, e327, hx327_0, hx327_1, hx327_2⟩ := at_T51 (Kd.R_reads' HO325.out).2.2 2 p327 q327; obtain rfl : ad326 = ad327 := (by injection e327); (try simp only [show (2 : Int).toNat = 2 from rfl, Nat.reduceMul, Nat.reduceEqDiff, Go.Addr.add, ↓reduceIte] at hx327_0); (try simp only [show (2 : Int).toNat = 2 from rfl, Nat.reduceMul, Nat.reduceEqDiff, Go.Addr.add, ↓reduceIte] at hx327_1); (try simp only [show (2 : Int).toNat = 2 from rfl, Nat.reduceMul, Nat.reduceEqDiff, Go.Addr.add, ↓reduceIte] at hx327_2); have qi327 : (2 < t322.length) = True := eq_true (by omega); (try rw [show ((2 : Int)).toNat = 2 from rfl] at hx327_0); (try rw [show 2 * 3 = 6 from rfl] at hx327_0); (try rw [show ((2 : Int)).toNat = 2 from rfl] at hx327_1); (try rw [show 2 * 3 = 6 from rfl] at hx327_1); (try rw [show ((2 : Int)).toNat = 2 from rfl] at hx327_2); (try rw [show 2 * 3 = 6 from rfl] at hx327_2); replace p327 := eq_true p327; replace q327 := eq_true q327))
          have n0_ := Aside0.mk (Kd.R_drew HO325.out)
          have n1_ := Aside0.mk (blk_drew BK321.out)
          have n2_ := Aside0.mk (below_drew1 HB.out)
          clear HO325
          clear BK321
          clear HB
          have HO325 := n0_
          have BK321 := n1_
          have HB := n2_
          clear n0_ n1_ n2_
          have p328 : 0 ≤ (0 : Int) := (by omega)
          have q328 : 0 < (t322.length : Int) := of_decide_eq_true (by first | (with_reducible assumption) | assumption)
          obtain ⟨ad328, e328, hx328_0, hx328_1, hx328_2⟩ := at_T51 (Kd.R_reads' HO325.out).2.2 0 p328 q328
          obtain rfl : ad326 = ad328 := (by injection e328)
          have qi328 : (0 < t322.length) = True := eq_true (by omega)
          (try rw [show ((0 : Int)).toNat = 0 from rfl] at hx328_0)
          (try rw [show 0 * 3 = 0 from rfl] at hx328_0)
          (try rw [Addr.add_zero'] at hx328_0)
          (try rw [show ((0 : Int)).toNat = 0 from rfl] at hx328_1)
          (try rw [show 0 * 3 = 0 from rfl] at hx328_1)
          (try rw [Addr.add_zero'] at hx328_1)
          (try rw [show ((0 : Int)).toNat = 0 from rfl] at hx328_2)
          (try rw [show 0 * 3 = 0 from rfl] at hx328_2)
          (try rw [Addr.add_zero'] at hx328_2)
          replace p328 := eq_true p328
          replace q328 := eq_true q328
          have p329 : 0 ≤ (1 : Int) := (by omega)
          have q329 : 1 < (t322.length : Int) := of_decide_eq_true (by first | (with_reducible assumption) | assumption)
          obtain ⟨ad329, e329, hx329_0, hx329_1, hx329_2⟩ := at_T51 (Kd.R_reads' HO325.out).2.2 1 p329 q329
          obtain rfl : ad326 = ad329 := (by injection e329)
          (try simp only [show (1 : Int).toNat = 1 from rfl, Nat.reduceMul, Nat.reduceEqDiff, Go.Addr.add, ↓reduceIte] at hx329_0)
          (try simp only [show (1 : Int).toNat = 1 from rfl, Nat.reduceMul, Nat.reduceEqDiff, Go.Addr.add, ↓reduceIte] at hx329_1)
          (try simp only [show (1 : Int).toNat = 1 from rfl, Nat.reduceMul, Nat.reduceEqDiff, Go.Addr.add, ↓reduceIte] at hx329_2)
          have qi329 : (1 < t322.length) = True := eq_true (by omega)
          (try rw [show ((1 : Int)).toNat = 1 from rfl] at hx329_0)
          (try rw [show 1 * 3 = 3 from rfl] at hx329_0)
          (try rw [show ((1 : Int)).toNat = 1 from rfl] at hx329_1)
          (try rw [show 1 * 3 = 3 from rfl] at hx329_1)
          (try rw [show ((1 : Int)).toNat = 1 from rfl] at hx329_2)
          (try rw [show 1 * 3 = 3 from rfl] at hx329_2)
          replace p329 := eq_true p329
          replace q329 := eq_true q329
          have p330 : 0 ≤ (2 : Int) := (by omega)
          have q330 : 2 < (t322.length : Int) := of_decide_eq_true (by first | (with_reducible assumption) | assumption)
          obtain ⟨ad330, e330, hx330_0, hx330_1, hx330_2⟩ := at_T51 (Kd.R_reads' HO325.out).2.2 2 p330 q330
          obtain rfl : ad326 = ad330 := (by injection e330)
          (try simp only [show (2 : Int).toNat = 2 from rfl, Nat.reduceMul, Nat.reduceEqDiff, Go.Addr.add, ↓reduceIte] at hx330_0)
          (try simp only [show (2 : Int).toNat = 2 from rfl, Nat.reduceMul, Nat.reduceEqDiff, Go.Addr.add, ↓reduceIte] at hx330_1)
          (try simp only [show (2 : Int).toNat = 2 from rfl, Nat.reduceMul, Nat.reduceEqDiff, Go.Addr.add, ↓reduceIte] at hx330_2)
          have qi330 : (2 < t322.length) = True := eq_true (by omega)
          (try rw [show ((2 : Int)).toNat = 2 from rfl] at hx330_0)
          (try rw [show 2 * 3 = 6 from rfl] at hx330_0)
          (try rw [show ((2 : Int)).toNat = 2 from rfl] at hx330_1)
          (try rw [show 2 * 3 = 6 from rfl] at hx330_1)
          (try rw [show ((2 : Int)).toNat = 2 from rfl] at hx330_2)
          (try rw [show 2 * 3 = 6 from rfl] at hx330_2)
          replace p330 := eq_true p330
          replace q330 := eq_true q330
          have p331 : 0 ≤ (3 : Int) := (by omega)
          have q331 : 3 < (t322.length : Int) := of_decide_eq_true (by first | (with_reducible assumption) | assumption)
          obtain ⟨ad331, e331, hx331_0, hx331_1, hx331_2⟩ := at_T51 (Kd.R_reads' HO325.out).2.2 3 p331 q331
          obtain rfl : ad326 = ad331 := (by injection e331)
          (try simp only [show (3 : Int).toNat = 3 from rfl, Nat.reduceMul, Nat.reduceEqDiff, Go.Addr.add, ↓reduceIte] at hx331_0)
          (try simp only [show (3 : Int).toNat = 3 from rfl, Nat.reduceMul, Nat.reduceEqDiff, Go.Addr.add, ↓reduceIte] at hx331_1)
          (try simp only [show (3 : Int).toNat = 3 from rfl, Nat.reduceMul, Nat.reduceEqDiff, Go.Addr.add, ↓reduceIte] at hx331_2)
          have qi331 : (3 < t322.length) = True := eq_true (by omega)
          (try rw [show ((3 : Int)).toNat = 3 from rfl] at hx331_0)
          (try rw [show 3 * 3 = 9 from rfl] at hx331_0)
          (try rw [show ((3 : Int)).toNat = 3 from rfl] at hx331_1)
          (try rw [show 3 * 3 = 9 from rfl] at hx331_1)
          (try rw [show ((3 : Int)).toNat = 3 from rfl] at hx331_2)
          (try rw [show 3 * 3 = 9 from rfl] at hx331_2)
          replace p331 := eq_true p331
          replace q331 := eq_true q331
          have p332 : 0 ≤ (4 : Int) := (by omega)
          have q332 : 4 < (t322.length : Int) := of_decide_eq_true (by first | (with_reducible assumption) | assumption)
          obtain ⟨ad332, e332, hx332_0, hx332_1, hx332_2⟩ := at_T51 (Kd.R_reads' HO325.out).2.2 4 p332 q332
          obtain rfl : ad326 = ad332 := (by injection e332)
          (try simp only [show (4 : Int).toNat = 4 from rfl, Nat.reduceMul, Nat.reduceEqDiff, Go.Addr.add, ↓reduceIte] at hx332_0)
          (try simp only [show (4 : Int).toNat = 4 from rfl, Nat.reduceMul, Nat.reduceEqDiff, Go.Addr.add, ↓reduceIte] at hx332_1)
          (try simp only [show (4 : Int).toNat = 4 from rfl, Nat.reduceMul, Nat.reduceEqDiff, Go.Addr.add, ↓reduceIte] at hx332_2)
          have qi332 : (4 < t322.length) = True := eq_true (by omega)
          (try rw [show ((4 : Int)).toNat = 4 from rfl] at hx332_0)
          (try rw [show 4 * 3 = 12 from rfl] at hx332_0)
          (try rw [show ((4 : Int)).toNat = 4 from rfl] at hx332_1)
          (try rw [show 4 * 3 = 12 from rfl] at hx332_1)
          (try rw [show ((4 : Int)).toNat = 4 from rfl] at hx332_2)
          (try rw [show 4 * 3 = 12 from rfl] at hx332_2)
          replace p332 := eq_true p332
          replace q332 := eq_true q332
          refine start_ (n := 29) (S := fun w' => w'.cell? ad326 = some (.int .i64 ((rd_T51 t322 0).f0)) ∧ w'.cell? ⟨ad326.block, ad326.off + 1, none⟩ = some (.int .u64 ((rd_T51 t322 0).f1)) ∧ w'.cell? ⟨ad326.block, ad326.off + 2, none⟩ = some (.string ((rd_T51 t322 0).f2)) ∧ w'.cell? ⟨ad326.block, ad326.off + 3, none⟩ = some (.int .i64 ((rd_T51 t322 1).f0)) ∧ w'.cell? ⟨ad326.block, ad326.off + 3 + 1, none⟩ = some (.int .u64 ((rd_T51 t322 1).f1)) ∧ w'.cell? ⟨ad326.block, ad326.off + 3 + 2, none⟩ = some (.string ((rd_T51 t322 1).f2)) ∧ w'.cell? ⟨ad326.block, ad326.off + 6, none⟩ = some (.int .i64 ((rd_T51 t322 2).f0)) ∧ w'.cell? ⟨ad326.block, ad326.off + 6 + 1, none⟩ = some (.int .u64 ((rd_T51 t322 2).f1)) ∧ w'.cell? ⟨ad326.block, ad326.off + 6 + 2, none⟩ = some (.string ((rd_T51 t322 2).f2)) ∧ w'.cell? ⟨ad326.block, ad326.off + 9, none⟩ = some (.int .i64 ((rd_T51 t322 3).f0)) ∧ w'.cell? ⟨ad326.block, ad326.off + 9 + 1, none⟩ = some (.int .u64 ((rd_T51 t322 3).f1)) ∧ w'.cell? ⟨ad326.block, ad326.off + 9 + 2, none⟩ = some (.string ((rd_T51 t322 3).f2)) ∧ w'.cell? ⟨ad326.block, ad326.off + 12, none⟩ = some (.int .i64 ((rd_T51 t322 4).f0)) ∧ w'.cell? ⟨ad326.block, ad326.off + 12 + 1, none⟩ = some (.int .u64 ((rd_T51 t322 4).f1)) ∧ w'.cell? ⟨ad326.block, ad326.off + 12 + 2, none⟩ = some (.string ((rd_T51 t322 4).f2))) (ds := []) #[false, false, false, false, false, false, false, false, false, false, false, false, false, false, false, false, false, false, false, false, false, false, false, false, false, false, false, false, false] (by kernel_rfl) rfl rfl ⟨hx328_0, hx328_1, hx328_2, hx329_0, hx329_1, hx329_2, hx330_0, hx330_1, hx330_2, hx331_0, hx331_1, hx331_2, hx332_0, hx332_1, hx332_2⟩ (fun hHeld => ?_); refine with_tabW carillonref10_Decode.tab6 carillonref10_Decode.bits6 (fun HT_ HW_ => ?_)
          generalize w37.drew = w39 at HO325 BK321 HB hx328_0 hx328_1 hx328_2 hx329_0 hx329_1 hx329_2 hx330_0 hx330_1 hx330_2 hx331_0 hx331_1 hx331_2 hx332_0 hx332_1 hx332_2 hHeld ⊢
          refine pure_ (i := 0) (N := some 30) (v := ?_) (a' := ?_) #[true, false, false, false, false, false, false, false, false, false, false, false, false, false, false, false, false, false, false, false, false, false, false, false, false, false, false, false, false] rfl rfl (any_of HT_.out (by kernel_rfl)) (fun _ _ _ h => h) (Or.inl ⟨by rfl, ?_⟩) ?_ ?_
          rotate_left
          ·intro w'
           go_simp
           with_reducible rfl
          rotate_left
          ·simp only [Act.put, sl1, sl2, sl3, i64_w, i32_w]
           rfl
          refine pure_ (i := 1) (N := some 31) (v := ?_) (a' := ?_) #[true, true, false, false, false, false, false, false, false, false, false, false, false, false, false, false, false, false, false, false, false, false, false, false, false, false, false, false, false] rfl rfl (any_of HT_.out (by kernel_rfl)) (fun _ _ _ h => h) (Or.inl ⟨by rfl, ?_⟩) ?_ ?_
          rotate_left
          ·intro w'
           go_simp
           with_reducible rfl
          rotate_left
          ·simp only [Act.put, sl1, sl2, sl3, i64_w, i32_w]
           rfl
          refine pure_ (i := 2) (N := some 32) (v := ?_) (a' := ?_) #[true, true, true, false, false, false, false, false, false, false, false, false, false, false, false, false, false, false, false, false, false, false, false, false, false, false, false, false, false] rfl rfl (any_of HT_.out (by kernel_rfl)) (fun _ _ _ h => h) (Or.inl ⟨by rfl, ?_⟩) ?_ ?_
          rotate_left
          ·intro w'
           go_simp
           with_reducible rfl
          rotate_left
          ·simp only [Act.put, sl1, sl2, sl3, i64_w, i32_w]
           rfl
          refine pure_ (i := 5) (N := some 35) (v := ?_) (a' := ?_) #[true, true, true, false, false, true, false, false, false, false, false, false, false, false, false, false, false, false, false, false, false, false, false, false, false, false, false, false, false] rfl rfl (any_of HT_.out (by kernel_rfl)) (fun _ _ _ h => h) (Or.inl ⟨by rfl, ?_⟩) ?_ ?_
          rotate_left
          ·intro w'
           go_simp
           with_reducible rfl
          rotate_left
          ·simp only [Act.put, sl1, sl2, sl3, i64_w, i32_w]
           rfl
          refine pure_ (i := 6) (N := some 36) (v := ?_) (a' := ?_) #[true, true, true, false, false, true, true, false, false, false, false, false, false, false, false, false, false, false, false, false, false, false, false, false, false, false, false, false, false] rfl rfl (any_of HT_.out (by kernel_rfl)) (fun _ _ _ h => h) (Or.inl ⟨by rfl, ?_⟩) ?_ ?_
          rotate_left
          ·intro w'
           go_simp
           with_reducible rfl
          rotate_left
          ·simp only [Act.put, sl1, sl2, sl3, i64_w, i32_w]
           rfl
          refine pure_ (i := 7) (N := some 37) (v := ?_) (a' := ?_) #[true, true, true, false, false, true, true, true, false, false, false, false, false, false, false, false, false, false, false, false, false, false, false, false, false, false, false, false, false] rfl rfl (any_of HT_.out (by kernel_rfl)) (fun _ _ _ h => h) (Or.inl ⟨by rfl, ?_⟩) ?_ ?_
          rotate_left
          ·intro w'
           go_simp
           with_reducible rfl
          rotate_left
          ·simp only [Act.put, sl1, sl2, sl3, i64_w, i32_w]
           rfl
          refine pure_ (i := 11) (N := some 41) (v := ?_) (a' := ?_) #[true, true, true, false, false, true, true, true, false, false, false, true, false, false, false, false, false, false, false, false, false, false, false, false, false, false, false, false, false] rfl rfl (any_of HT_.out (by kernel_rfl)) (fun _ _ _ h => h) (Or.inl ⟨by rfl, ?_⟩) ?_ ?_
          rotate_left
          ·intro w'
           go_simp
           with_reducible rfl
          rotate_left
          ·simp only [Act.put, sl1, sl2, sl3, i64_w, i32_w]
           rfl
          refine pure_ (i := 12) (N := some 42) (v := ?_) (a' := ?_) #[true, true, true, false, false, true, true, true, false, false, false, true, true, false, false, false, false, false, false, false, false, false, false, false, false, false, false, false, false] rfl rfl (any_of HT_.out (by kernel_rfl)) (fun _ _ _ h => h) (Or.inl ⟨by rfl, ?_⟩) ?_ ?_
          rotate_left
          ·intro w'
           go_simp
           with_reducible rfl
          rotate_left
          ·simp only [Act.put, sl1, sl2, sl3, i64_w, i32_w]
           rfl
          refine pure_ (i := 13) (N := some 43) (v := ?_) (a' := ?_) #[true, true, true, false, false, true, true, true, false, false, false, true, true, true, false, false, false, false, false, false, false, false, false, false, false, false, false, false, false] rfl rfl (any_of HT_.out (by kernel_rfl)) (fun _ _ _ h => h) (Or.inl ⟨by rfl, ?_⟩) ?_ ?_
          rotate_left
          ·intro w'
           go_simp
           with_reducible rfl
          rotate_left
          ·simp only [Act.put, sl1, sl2, sl3, i64_w, i32_w]
           rfl
          refine pure_ (i := 16) (N := some 46) (v := ?_) (a' := ?_) #[true, true, true, false, false, true, true, true, false, false, false, true, true, true, false, false, true, false, false, false, false, false, false, false, false, false, false, false, false] rfl rfl (any_of HT_.out (by kernel_rfl)) (fun _ _ _ h => h) (Or.inl ⟨by rfl, ?_⟩) ?_ ?_
          rotate_left
          ·intro w'
           go_simp
           with_reducible rfl
          rotate_left
          ·simp only [Act.put, sl1, sl2, sl3, i64_w, i32_w]
           rfl
          refine pure_ (i := 17) (N := some 47) (v := ?_) (a' := ?_) #[true, true, true, false, false, true, true, true, false, false, false, true, true, true, false, false, true, true, false, false, false, false, false, false, false, false, false, false, false] rfl rfl (any_of HT_.out (by kernel_rfl)) (fun _ _ _ h => h) (Or.inl ⟨by rfl, ?_⟩) ?_ ?_
          rotate_left
          ·intro w'
           go_simp
           with_reducible rfl
          rotate_left
          ·simp only [Act.put, sl1, sl2, sl3, i64_w, i32_w]
           rfl
          refine pure_ (i := 18) (N := some 48) (v := ?_) (a' := ?_) #[true, true, true, false, false, true, true, true, false, false, false, true, true, true, false, false, true, true, true, false, false, false, false, false, false, false, false, false, false] rfl rfl (any_of HT_.out (by kernel_rfl)) (fun _ _ _ h => h) (Or.inl ⟨by rfl, ?_⟩) ?_ ?_
          rotate_left
          ·intro w'
           go_simp
           with_reducible rfl
          rotate_left
          ·simp only [Act.put, sl1, sl2, sl3, i64_w, i32_w]
           rfl
          refine pure_ (i := 22) (N := some 52) (v := ?_) (a' := ?_) #[true, true, true, false, false, true, true, true, false, false, false, true, true, true, false, false, true, true, true, false, false, false, true, false, false, false, false, false, false] rfl rfl (any_of HT_.out (by kernel_rfl)) (fun _ _ _ h => h) (Or.inl ⟨by rfl, ?_⟩) ?_ ?_
          rotate_left
          ·intro w'
           go_simp
           with_reducible rfl
          rotate_left
          ·simp only [Act.put, sl1, sl2, sl3, i64_w, i32_w]
           rfl
          refine pure_ (i := 23) (N := some 53) (v := ?_) (a' := ?_) #[true, true, true, false, false, true, true, true, false, false, false, true, true, true, false, false, true, true, true, false, false, false, true, true, false, false, false, false, false] rfl rfl (any_of HT_.out (by kernel_rfl)) (fun _ _ _ h => h) (Or.inl ⟨by rfl, ?_⟩) ?_ ?_
          rotate_left
          ·intro w'
           go_simp
           with_reducible rfl
          rotate_left
          ·simp only [Act.put, sl1, sl2, sl3, i64_w, i32_w]
           rfl
          refine pure_ (i := 24) (N := some 54) (v := ?_) (a' := ?_) #[true, true, true, false, false, true, true, true, false, false, false, true, true, true, false, false, true, true, true, false, false, false, true, true, true, false, false, false, false] rfl rfl (any_of HT_.out (by kernel_rfl)) (fun _ _ _ h => h) (Or.inl ⟨by rfl, ?_⟩) ?_ ?_
          rotate_left
          ·intro w'
           go_simp
           with_reducible rfl
          rotate_left
          ·simp only [Act.put, sl1, sl2, sl3, i64_w, i32_w]
           rfl
          refine take_ (i := 3) (N := some 33) (v := ?_) (a' := ?_) #[true, true, true, true, false, true, true, true, false, false, false, true, true, true, false, false, true, true, true, false, false, false, true, true, true, false, false, false, false] rfl rfl (take_ofW HT_.out HW_.out (by kernel_rfl)) (fun _ _ _ h => h) (Or.inl ⟨by rfl, ?_⟩) hHeld ?_ ?_
          rotate_left
          ·rintro w' ⟨s0, s1, s2, s3, s4, s5, s6, s7, s8, s9, s10, s11, s12, s13, s14⟩
           go_simp
           with_reducible rfl
          rotate_left
          ·simp only [Act.put, sl1, sl2, sl3, i64_w, i32_w]
           rfl
          refine pure_ (i := 4) (N := some 34) (v := ?_) (a' := ?_) #[true, true, true, true, true, true, true, true, false, false, false, true, true, true, false, false, true, true, true, false, false, false, true, true, true, false, false, false, false] rfl rfl (any_of HT_.out (by kernel_rfl)) (fun _ _ _ h => h) (Or.inl ⟨by rfl, ?_⟩) ?_ ?_
          rotate_left
          ·intro w'
           go_simp
           with_reducible rfl
          rotate_left
          ·simp only [Act.put, sl1, sl2, sl3, i64_w, i32_w]
           rfl
          refine take_ (i := 8) (N := some 38) (v := ?_) (a' := ?_) #[true, true, true, true, true, true, true, true, true, false, false, true, true, true, false, false, true, true, true, false, false, false, true, true, true, false, false, false, false] rfl rfl (take_ofW HT_.out HW_.out (by kernel_rfl)) (fun _ _ _ h => h) (Or.inl ⟨by rfl, ?_⟩) hHeld ?_ ?_
          rotate_left
          ·rintro w' ⟨s0, s1, s2, s3, s4, s5, s6, s7, s8, s9, s10, s11, s12, s13, s14⟩
           go_simp
           with_reducible rfl
          rotate_left
          ·simp only [Act.put, sl1, sl2, sl3, i64_w, i32_w]
           rfl
          refine pure_ (i := 9) (N := some 39) (v := ?_) (a' := ?_) #[true, true, true, true, true, true, true, true, true, true, false, true, true, true, false, false, true, true, true, false, false, false, true, true, true, false, false, false, false] rfl rfl (any_of HT_.out (by kernel_rfl)) (fun _ _ _ h => h) (Or.inl ⟨by rfl, ?_⟩) ?_ ?_
          rotate_left
          ·intro w'
           go_simp
           with_reducible rfl
          rotate_left
          ·simp only [Act.put, sl1, sl2, sl3, i64_w, i32_w]
           rfl
          refine pure_ (i := 10) (N := some 40) (v := ?_) (a' := ?_) #[true, true, true, true, true, true, true, true, true, true, true, true, true, true, false, false, true, true, true, false, false, false, true, true, true, false, false, false, false] rfl rfl (any_of HT_.out (by kernel_rfl)) (fun _ _ _ h => h) (Or.inl ⟨by rfl, ?_⟩) ?_ ?_
          rotate_left
          ·intro w'
           go_simp
           with_reducible rfl
          rotate_left
          ·simp only [Act.put, sl1, sl2, sl3, i64_w, i32_w]
           rfl
          refine take_ (i := 14) (N := some 44) (v := ?_) (a' := ?_) #[true, true, true, true, true, true, true, true, true, true, true, true, true, true, true, false, true, true, true, false, false, false, true, true, true, false, false, false, false] rfl rfl (take_ofW HT_.out HW_.out (by kernel_rfl)) (fun _ _ _ h => h) (Or.inl ⟨by rfl, ?_⟩) hHeld ?_ ?_
          rotate_left
          ·rintro w' ⟨s0, s1, s2, s3, s4, s5, s6, s7, s8, s9, s10, s11, s12, s13, s14⟩
           go_simp
           with_reducible rfl
          rotate_left
          ·simp only [Act.put, sl1, sl2, sl3, i64_w, i32_w]
           rfl
          refine pure_ (i := 15) (N := some 45) (v := ?_) (a' := ?_) #[true, true, true, true, true, true, true, true, true, true, true, true, true, true, true, true, true, true, true, false, false, false, true, true, true, false, false, false, false] rfl rfl (any_of HT_.out (by kernel_rfl)) (fun _ _ _ h => h) (Or.inl ⟨by rfl, ?_⟩) ?_ ?_
          rotate_left
          ·intro w'
           go_simp
           with_reducible rfl
          rotate_left
          ·simp only [Act.put, sl1, sl2, sl3, i64_w, i32_w]
           rfl
          refine take_ (i := 19) (N := some 49) (v := ?_) (a' := ?_) #[true, true, true, true, true, true, true, true, true, true, true, true, true, true, true, true, true, true, true, true, false, false, true, true, true, false, false, false, false] rfl rfl (take_ofW HT_.out HW_.out (by kernel_rfl)) (fun _ _ _ h => h) (Or.inl ⟨by rfl, ?_⟩) hHeld ?_ ?_
          rotate_left
          ·rintro w' ⟨s0, s1, s2, s3, s4, s5, s6, s7, s8, s9, s10, s11, s12, s13, s14⟩
           go_simp
           with_reducible rfl
          rotate_left
          ·simp only [Act.put, sl1, sl2, sl3, i64_w, i32_w]
           rfl
          refine pure_ (i := 20) (N := some 50) (v := ?_) (a' := ?_) #[true, true, true, true, true, true, true, true, true, true, true, true, true, true, true, true, true, true, true, true, true, false, true, true, true, false, false, false, false] rfl rfl (any_of HT_.out (by kernel_rfl)) (fun _ _ _ h => h) (Or.inl ⟨by rfl, ?_⟩) ?_ ?_
          rotate_left
          ·intro w'
           go_simp
           with_reducible rfl
          rotate_left
          ·simp only [Act.put, sl1, sl2, sl3, i64_w, i32_w]
           rfl
          refine pure_ (i := 21) (N := some 51) (v := ?_) (a' := ?_) #[true, true, true, true, true, true, true, true, true, true, true, true, true, true, true, true, true, true, true, true, true, true, true, true, true, false, false, false, false] rfl rfl (any_of HT_.out (by kernel_rfl)) (fun _ _ _ h => h) (Or.inl ⟨by rfl, ?_⟩) ?_ ?_
          rotate_left
          ·intro w'
           go_simp
           with_reducible rfl
          rotate_left
          ·simp only [Act.put, sl1, sl2, sl3, i64_w, i32_w]
           rfl
          refine take_ (i := 25) (N := some 55) (v := ?_) (a' := ?_) #[true, true, true, true, true, true, true, true, true, true, true, true, true, true, true, true, true, true, true, true, true, true, true, true, true, true, false, false, false] rfl rfl (take_ofW HT_.out HW_.out (by kernel_rfl)) (fun _ _ _ h => h) (Or.inl ⟨by rfl, ?_⟩) hHeld ?_ ?_
          rotate_left
          ·rintro w' ⟨s0, s1, s2, s3, s4, s5, s6, s7, s8, s9, s10, s11, s12, s13, s14⟩
           go_simp
           with_reducible rfl
          rotate_left
          ·simp only [Act.put, sl1, sl2, sl3, i64_w, i32_w]
           rfl
          refine pure_ (i := 26) (N := some 56) (v := ?_) (a' := ?_) #[true, true, true, true, true, true, true, true, true, true, true, true, true, true, true, true, true, true, true, true, true, true, true, true, true, true, true, false, false] rfl rfl (any_of HT_.out (by kernel_rfl)) (fun _ _ _ h => h) (Or.inl ⟨by rfl, ?_⟩) ?_ ?_
          rotate_left
          ·intro w'
           go_simp
           with_reducible rfl
          rotate_left
          ·simp only [Act.put, sl1, sl2, sl3, i64_w, i32_w]
           rfl
          refine one_ (i := 27) (N := some 6) #[true, true, true, true, true, true, true, true, true, true, true, true, true, true, true, true, true, true, true, true, true, true, true, true, true, true, true, true, false] rfl rfl (one_of HT_.out (by kernel_rfl)) (by decide) (fun K hK => ?_)
          refine box_step ?hg (N := 6) ?hd (cs := #[.int .i64 0, .int .i64 0, .int .i64 0, .int .i64 0, .string (⟨#[]⟩ : ByteArray)]) (t := 25) ?hr ?_; (case hd => rfl); (case hg => rfl); (case hr => first | (go_simp; done) | (go_simp; rfl))
          intro gb333 hg w40 hbox hb
          have HS0_ := (hb.cell (World.block_lt_of_cell? _ _ (hHeld.1))).trans (hHeld.1)
          have HS1_ := (hb.cell (World.block_lt_of_cell? _ _ (hHeld.2.1))).trans (hHeld.2.1)
          have HS2_ := (hb.cell (World.block_lt_of_cell? _ _ (hHeld.2.2.1))).trans (hHeld.2.2.1)
          have HS3_ := (hb.cell (World.block_lt_of_cell? _ _ (hHeld.2.2.2.1))).trans (hHeld.2.2.2.1)
          have HS4_ := (hb.cell (World.block_lt_of_cell? _ _ (hHeld.2.2.2.2.1))).trans (hHeld.2.2.2.2.1)
          have HS5_ := (hb.cell (World.block_lt_of_cell? _ _ (hHeld.2.2.2.2.2.1))).trans (hHeld.2.2.2.2.2.1)
          have HS6_ := (hb.cell (World.block_lt_of_cell? _ _ (hHeld.2.2.2.2.2.2.1))).trans (hHeld.2.2.2.2.2.2.1)
          have HS7_ := (hb.cell (World.block_lt_of_cell? _ _ (hHeld.2.2.2.2.2.2.2.1))).trans (hHeld.2.2.2.2.2.2.2.1)
          have HS8_ := (hb.cell (World.block_lt_of_cell? _ _ (hHeld.2.2.2.2.2.2.2.2.1))).trans (hHeld.2.2.2.2.2.2.2.2.1)
          have HS9_ := (hb.cell (World.block_lt_of_cell? _ _ (hHeld.2.2.2.2.2.2.2.2.2.1))).trans (hHeld.2.2.2.2.2.2.2.2.2.1)
          have HS10_ := (hb.cell (World.block_lt_of_cell? _ _ (hHeld.2.2.2.2.2.2.2.2.2.2.1))).trans (hHeld.2.2.2.2.2.2.2.2.2.2.1)
          have HS11_ := (hb.cell (World.block_lt_of_cell? _ _ (hHeld.2.2.2.2.2.2.2.2.2.2.2.1))).trans (hHeld.2.2.2.2.2.2.2.2.2.2.2.1)
          have HS12_ := (hb.cell (World.block_lt_of_cell? _ _ (hHeld.2.2.2.2.2.2.2.2.2.2.2.2.1))).trans (hHeld.2.2.2.2.2.2.2.2.2.2.2.2.1)
          have HS13_ := (hb.cell (World.block_lt_of_cell? _ _ (hHeld.2.2.2.2.2.2.2.2.2.2.2.2.2.1))).trans (hHeld.2.2.2.2.2.2.2.2.2.2.2.2.2.1)
          have HS14_ := (hb.cell (World.block_lt_of_cell? _ _ (hHeld.2.2.2.2.2.2.2.2.2.2.2.2.2.2))).trans (hHeld.2.2.2.2.2.2.2.2.2.2.2.2.2.2)
          have n0_ := Aside0.mk (Kd.R_below (by (with_reducible repeat (first | apply Kd.R_alloc | apply Kd.R_drewN | apply Kd.R_drew)); exact HO325.out) hb)
          have n1_ := Aside0.mk (nb BK321.out hb)
          have n2_ := Aside0.mk (below_step bw hb)
          have n3_ := Aside0.mk (hbox)
          have n4_ := Aside0.mk ((g1 hg bw : w.heap.size ≤ gb333))
          have n5_ := Aside0.mk ((g1 hg bw : w.heap.size ≤ gb333))
          have n6_ := Aside0.mk ((n1 hg BK321.out : gb321 ≠ gb333))
          have n7_ := Aside0.mk ((n2 hg BK321.out : gb333 ≠ gb321))
          clear HO325
          clear BK321
          clear HB
          have HO325 := n0_
          have BK321 := n1_
          have HB := n2_
          have BK333 := n3_
          have GW333 := n4_
          have GE333 := n5_
          have NB321_333 := n6_
          have NB333_321 := n7_
          clear n0_ n1_ n2_ n3_ n4_ n5_ n6_ n7_
          clear hb hbox hg
          refine hK.out _ _ ⟨HS0_, HS1_, HS2_, HS3_, HS4_, HS5_, HS6_, HS7_, HS8_, HS9_, HS10_, HS11_, HS12_, HS13_, HS14_⟩ (fun hHeld => ?_)
          clear hK K
          refine norm_ (a' := ?_) ?_ ?_
          rotate_left
          ·show Act.put _ (some 6) _ = _
           simp only [Act.put, sl1, sl2, sl3, i64_w, i32_w]
           rfl
          refine one_ (i := 28) (N := none) #[true, true, true, true, true, true, true, true, true, true, true, true, true, true, true, true, true, true, true, true, true, true, true, true, true, true, true, true, true] rfl rfl (one_of HT_.out (by kernel_rfl)) (by decide) (fun K hK => ?_)
          have hs41 : w40.cell? ⟨gb333, 0, none⟩ = some (.int .i64 0) := (blk_cell BK333.out 0).trans rfl
          have hfs41 := blk_frozen BK333.out 0
          have hns41_0 := NB321_333.out
          have hms41_0 := NB333_321.out
          have hs42 : w40.cell? ⟨gb333, 1, none⟩ = some (.int .i64 0) := (blk_cell BK333.out 1).trans rfl
          have hfs42 := blk_frozen BK333.out 1
          have hns42_0 := NB321_333.out
          have hms42_0 := NB333_321.out
          have hs43 : w40.cell? ⟨gb333, 2, none⟩ = some (.int .i64 0) := (blk_cell BK333.out 2).trans rfl
          have hfs43 := blk_frozen BK333.out 2
          have hns43_0 := NB321_333.out
          have hms43_0 := NB333_321.out
          have hs44 : w40.cell? ⟨gb333, 3, none⟩ = some (.int .i64 0) := (blk_cell BK333.out 3).trans rfl
          have hfs44 := blk_frozen BK333.out 3
          have hns44_0 := NB321_333.out
          have hms44_0 := NB333_321.out
          have hs45 : w40.cell? ⟨gb333, 4, none⟩ = some (.string (⟨#[]⟩ : ByteArray)) := (blk_cell BK333.out 4).trans rfl
          have hfs45 := blk_frozen BK333.out 4
          have hns45_0 := NB321_333.out
          have hms45_0 := NB333_321.out
          refine skip_ (w1 := ?_) (by rfl) rfl ?_ ?_
          rotate_left
          ·go_simp
           rfl
          refine hK.out _ _ ⟨((cf (p := ⟨gb333, _, none⟩) (Kd.own_blk (Kd.R_ne HO325.out BK333.out (by decide)))).trans (((cf (p := ⟨gb333, _, none⟩) (Kd.own_blk (Kd.R_ne HO325.out BK333.out (by decide)))).trans (((cf (p := ⟨gb333, _, none⟩) (Kd.own_blk (Kd.R_ne HO325.out BK333.out (by decide)))).trans (((cf (p := ⟨gb333, _, none⟩) (Kd.own_blk (Kd.R_ne HO325.out BK333.out (by decide)))).trans (((cf (p := ⟨gb333, _, none⟩) (Kd.own_blk (Kd.R_ne HO325.out BK333.out (by decide)))).trans (hHeld.1)))))))))), ((cf (p := ⟨gb333, _, none⟩) (Kd.own_blk (Kd.R_ne HO325.out BK333.out (by decide)))).trans (((cf (p := ⟨gb333, _, none⟩) (Kd.own_blk (Kd.R_ne HO325.out BK333.out (by decide)))).trans (((cf (p := ⟨gb333, _, none⟩) (Kd.own_blk (Kd.R_ne HO325.out BK333.out (by decide)))).trans (((cf (p := ⟨gb333, _, none⟩) (Kd.own_blk (Kd.R_ne HO325.out BK333.out (by decide)))).trans (((cf (p := ⟨gb333, _, none⟩) (Kd.own_blk (Kd.R_ne HO325.out BK333.out (by decide)))).trans (hHeld.2.1)))))))))), ((cf (p := ⟨gb333, _, none⟩) (Kd.own_blk (Kd.R_ne HO325.out BK333.out (by decide)))).trans (((cf (p := ⟨gb333, _, none⟩) (Kd.own_blk (Kd.R_ne HO325.out BK333.out (by decide)))).trans (((cf (p := ⟨gb333, _, none⟩) (Kd.own_blk (Kd.R_ne HO325.out BK333.out (by decide)))).trans (((cf (p := ⟨gb333, _, none⟩) (Kd.own_blk (Kd.R_ne HO325.out BK333.out (by decide)))).trans (((cf (p := ⟨gb333, _, none⟩) (Kd.own_blk (Kd.R_ne HO325.out BK333.out (by decide)))).trans (hHeld.2.2.1)))))))))), ((cf (p := ⟨gb333, _, none⟩) (Kd.own_blk (Kd.R_ne HO325.out BK333.out (by decide)))).trans (((cf (p := ⟨gb333, _, none⟩) (Kd.own_blk (Kd.R_ne HO325.out BK333.out (by decide)))).trans (((cf (p := ⟨gb333, _, none⟩) (Kd.own_blk (Kd.R_ne HO325.out BK333.out (by decide)))).trans (((cf (p := ⟨gb333, _, none⟩) (Kd.own_blk (Kd.R_ne HO325.out BK333.out (by decide)))).trans (((cf (p := ⟨gb333, _, none⟩) (Kd.own_blk (Kd.R_ne HO325.out BK333.out (by decide)))).trans (hHeld.2.2.2.1)))))))))), ((cf (p := ⟨gb333, _, none⟩) (Kd.own_blk (Kd.R_ne HO325.out BK333.out (by decide)))).trans (((cf (p := ⟨gb333, _, none⟩) (Kd.own_blk (Kd.R_ne HO325.out BK333.out (by decide)))).trans (((cf (p := ⟨gb333, _, none⟩) (Kd.own_blk (Kd.R_ne HO325.out BK333.out (by decide)))).trans (((cf (p := ⟨gb333, _, none⟩) (Kd.own_blk (Kd.R_ne HO325.out BK333.out (by decide)))).trans (((cf (p := ⟨gb333, _, none⟩) (Kd.own_blk (Kd.R_ne HO325.out BK333.out (by decide)))).trans (hHeld.2.2.2.2.1)))))))))), ((cf (p := ⟨gb333, _, none⟩) (Kd.own_blk (Kd.R_ne HO325.out BK333.out (by decide)))).trans (((cf (p := ⟨gb333, _, none⟩) (Kd.own_blk (Kd.R_ne HO325.out BK333.out (by decide)))).trans (((cf (p := ⟨gb333, _, none⟩) (Kd.own_blk (Kd.R_ne HO325.out BK333.out (by decide)))).trans (((cf (p := ⟨gb333, _, none⟩) (Kd.own_blk (Kd.R_ne HO325.out BK333.out (by decide)))).trans (((cf (p := ⟨gb333, _, none⟩) (Kd.own_blk (Kd.R_ne HO325.out BK333.out (by decide)))).trans (hHeld.2.2.2.2.2.1)))))))))), ((cf (p := ⟨gb333, _, none⟩) (Kd.own_blk (Kd.R_ne HO325.out BK333.out (by decide)))).trans (((cf (p := ⟨gb333, _, none⟩) (Kd.own_blk (Kd.R_ne HO325.out BK333.out (by decide)))).trans (((cf (p := ⟨gb333, _, none⟩) (Kd.own_blk (Kd.R_ne HO325.out BK333.out (by decide)))).trans (((cf (p := ⟨gb333, _, none⟩) (Kd.own_blk (Kd.R_ne HO325.out BK333.out (by decide)))).trans (((cf (p := ⟨gb333, _, none⟩) (Kd.own_blk (Kd.R_ne HO325.out BK333.out (by decide)))).trans (hHeld.2.2.2.2.2.2.1)))))))))), ((cf (p := ⟨gb333, _, none⟩) (Kd.own_blk (Kd.R_ne HO325.out BK333.out (by decide)))).trans (((cf (p := ⟨gb333, _, none⟩) (Kd.own_blk (Kd.R_ne HO325.out BK333.out (by decide)))).trans (((cf (p := ⟨gb333, _, none⟩) (Kd.own_blk (Kd.R_ne HO325.out BK333.out (by decide)))).trans (((cf (p := ⟨gb333, _, none⟩) (Kd.own_blk (Kd.R_ne HO325.out BK333.out (by decide)))).trans (((cf (p := ⟨gb333, _, none⟩) (Kd.own_blk (Kd.R_ne HO325.out BK333.out (by decide)))).trans (hHeld.2.2.2.2.2.2.2.1)))))))))), ((cf (p := ⟨gb333, _, none⟩) (Kd.own_blk (Kd.R_ne HO325.out BK333.out (by decide)))).trans (((cf (p := ⟨gb333, _, none⟩) (Kd.own_blk (Kd.R_ne HO325.out BK333.out (by decide)))).trans (((cf (p := ⟨gb333, _, none⟩) (Kd.own_blk (Kd.R_ne HO325.out BK333.out (by decide)))).trans (((cf (p := ⟨gb333, _, none⟩) (Kd.own_blk (Kd.R_ne HO325.out BK333.out (by decide)))).trans (((cf (p := ⟨gb333, _, none⟩) (Kd.own_blk (Kd.R_ne HO325.out BK333.out (by decide)))).trans (hHeld.2.2.2.2.2.2.2.2.1)))))))))), ((cf (p := ⟨gb333, _, none⟩) (Kd.own_blk (Kd.R_ne HO325.out BK333.out (by decide)))).trans (((cf (p := ⟨gb333, _, none⟩) (Kd.own_blk (Kd.R_ne HO325.out BK333.out (by decide)))).trans (((cf (p := ⟨gb333, _, none⟩) (Kd.own_blk (Kd.R_ne HO325.out BK333.out (by decide)))).trans (((cf (p := ⟨gb333, _, none⟩) (Kd.own_blk (Kd.R_ne HO325.out BK333.out (by decide)))).trans (((cf (p := ⟨gb333, _, none⟩) (Kd.own_blk (Kd.R_ne HO325.out BK333.out (by decide)))).trans (hHeld.2.2.2.2.2.2.2.2.2.1)))))))))), ((cf (p := ⟨gb333, _, none⟩) (Kd.own_blk (Kd.R_ne HO325.out BK333.out (by decide)))).trans (((cf (p := ⟨gb333, _, none⟩) (Kd.own_blk (Kd.R_ne HO325.out BK333.out (by decide)))).trans (((cf (p := ⟨gb333, _, none⟩) (Kd.own_blk (Kd.R_ne HO325.out BK333.out (by decide)))).trans (((cf (p := ⟨gb333, _, none⟩) (Kd.own_blk (Kd.R_ne HO325.out BK333.out (by decide)))).trans (((cf (p := ⟨gb333, _, none⟩) (Kd.own_blk (Kd.R_ne HO325.out BK333.out (by decide)))).trans (hHeld.2.2.2.2.2.2.2.2.2.2.1)))))))))), ((cf (p := ⟨gb333, _, none⟩) (Kd.own_blk (Kd.R_ne HO325.out BK333.out (by decide)))).trans (((cf (p := ⟨gb333, _, none⟩) (Kd.own_blk (Kd.R_ne HO325.out BK333.out (by decide)))).trans (((cf (p := ⟨gb333, _, none⟩) (Kd.own_blk (Kd.R_ne HO325.out BK333.out (by decide)))).trans (((cf (p := ⟨gb333, _, none⟩) (Kd.own_blk (Kd.R_ne HO325.out BK333.out (by decide)))).trans (((cf (p := ⟨gb333, _, none⟩) (Kd.own_blk (Kd.R_ne HO325.out BK333.out (by decide)))).trans (hHeld.2.2.2.2.2.2.2.2.2.2.2.1)))))))))), ((cf (p := ⟨gb333, _, none⟩) (Kd.own_blk (Kd.R_ne HO325.out BK333.out (by decide)))).trans (((cf (p := ⟨gb333, _, none⟩) (Kd.own_blk (Kd.R_ne HO325.out BK333.out (by decide)))).trans (((cf (p := ⟨gb333, _, none⟩) (Kd.own_blk (Kd.R_ne HO325.out BK333.out (by decide)))).trans (((cf (p := ⟨gb333, _, none⟩) (Kd.own_blk (Kd.R_ne HO325.out BK333.out (by decide)))).trans (((cf (p := ⟨gb333, _, none⟩) (Kd.own_blk (Kd.R_ne HO325.out BK333.out (by decide)))).trans (hHeld.2.2.2.2.2.2.2.2.2.2.2.2.1)))))))))), ((cf (p := ⟨gb333, _, none⟩) (Kd.own_blk (Kd.R_ne HO325.out BK333.out (by decide)))).trans (((cf (p := ⟨gb333, _, none⟩) (Kd.own_blk (Kd.R_ne HO325.out BK333.out (by decide)))).trans (((cf (p := ⟨gb333, _, none⟩) (Kd.own_blk (Kd.R_ne HO325.out BK333.out (by decide)))).trans (((cf (p := ⟨gb333, _, none⟩) (Kd.own_blk (Kd.R_ne HO325.out BK333.out (by decide)))).trans (((cf (p := ⟨gb333, _, none⟩) (Kd.own_blk (Kd.R_ne HO325.out BK333.out (by decide)))).trans (hHeld.2.2.2.2.2.2.2.2.2.2.2.2.2.1)))))))))), ((cf (p := ⟨gb333, _, none⟩) (Kd.own_blk (Kd.R_ne HO325.out BK333.out (by decide)))).trans (((cf (p := ⟨gb333, _, none⟩) (Kd.own_blk (Kd.R_ne HO325.out BK333.out (by decide)))).trans (((cf (p := ⟨gb333, _, none⟩) (Kd.own_blk (Kd.R_ne HO325.out BK333.out (by decide)))).trans (((cf (p := ⟨gb333, _, none⟩) (Kd.own_blk (Kd.R_ne HO325.out BK333.out (by decide)))).trans (((cf (p := ⟨gb333, _, none⟩) (Kd.own_blk (Kd.R_ne HO325.out BK333.out (by decide)))).trans (hHeld.2.2.2.2.2.2.2.2.2.2.2.2.2.2))))))))))⟩ (fun hHeld => ?_)
          clear hK K
          refine done_ (done_of HT_.out (by kernel_rfl)) ?_
          have hnb46 := NB333_321.out
          have hnc46 := NB321_333.out
          have hcz47_0 := bc5_0 BK333.out
          have hcz47_1 := bc5_1 BK333.out
          have hcz47_2 := bc5_2 BK333.out
          have hcz47_3 := bc5_3 BK333.out
          have hcz47_4 := bc5_4 BK333.out
          have hfz47_0 := blk_frozen BK333.out 0
          have hfz47_1 := blk_frozen BK333.out 1
          have hfz47_2 := blk_frozen BK333.out 2
          have hfz47_3 := blk_frozen BK333.out 3
          have hfz47_4 := blk_frozen BK333.out 4
          try go_wp2_with (first | ((with_reducible refine gate_callee (f := 17) rfl ?_); refine goesL_ (some 58) rfl rfl Tryd.func17 (by kernel_rfl) rfl #[.agg #[.int .i64 (wrap64 ((rd_T51 t322 0).f1)), .int .i64 (wrap64 ((rd_T51 t322 1).f1)), .int .i64 (wrap64 ((rd_T51 t322 2).f1)), .int .i64 (wrap64 ((rd_T51 t322 3).f1)), .string ((rd_T51 t322 4).f2)]] rfl am ?_; (with_reducible refine (carillonref10_RightAcceptor.calls (wrap64 ((rd_T51 t322 0).f1)) (wrap64 ((rd_T51 t322 1).f1)) (wrap64 ((rd_T51 t322 2).f1)) (wrap64 ((rd_T51 t322 3).f1)) ((rd_T51 t322 4).f2) false _ A19.out).mono ?_); rintro e w48 ⟨rfl, hb⟩; refine ⟨_, rfl, ?_⟩; have n0_ := Aside0.mk (Kd.R_below (by (with_reducible repeat (first | apply Kd.R_alloc | apply Kd.R_drewN | apply Kd.R_drew)); exact (Kd.R_mono (Kd.R_far (p := ⟨gb333, 4, none⟩) (Kd.R_far (p := ⟨gb333, 3, none⟩) (Kd.R_far (p := ⟨gb333, 2, none⟩) (Kd.R_far (p := ⟨gb333, 1, none⟩) (Kd.R_far (p := ⟨gb333, 0, none⟩) (Kd.R_types HO325.out BK333.out (by decide)) (fun _ hk => hk.2) (.int .i64 (wrap64 ((rd_T51 t322 0).f1)))) (fun _ hk => hk.2) (.int .i64 (wrap64 ((rd_T51 t322 1).f1)))) (fun _ hk => hk.2) (.int .i64 (wrap64 ((rd_T51 t322 2).f1)))) (fun _ hk => hk.2) (.int .i64 (wrap64 ((rd_T51 t322 3).f1)))) (fun _ hk => hk.2) (.string ((rd_T51 t322 4).f2))) (fun _ h_ => h_.1))) hb); have n1_ := Aside0.mk (blk_below (g := gb321) (o := .cells #[.int .i64 0, .int .i64 0, .int .i64 0, .int .i64 0, .string (⟨#[]⟩ : ByteArray)] 25 (0, 0)) (by (with_reducible repeat (first | refine blk_drewN ?_ _ | refine blk_drew ?_ | refine blk_alloc ?_ _ | refine blk_far ?_ NB321_333.out _)); exact BK321.out) hb); have n2_ := Aside0.mk (blk_below (g := gb333) (o := .cells #[.int .i64 (wrap64 ((rd_T51 t322 0).f1)), .int .i64 (wrap64 ((rd_T51 t322 1).f1)), .int .i64 (wrap64 ((rd_T51 t322 2).f1)), .int .i64 (wrap64 ((rd_T51 t322 3).f1)), .string ((rd_T51 t322 4).f2)] 25 (0, 0)) (by (with_reducible repeat (first | refine blk_drewN ?_ _ | refine blk_drew ?_ | refine blk_alloc ?_ _)); refine blk_put (cs := #[.int .i64 (wrap64 ((rd_T51 t322 0).f1)), .int .i64 (wrap64 ((rd_T51 t322 1).f1)), .int .i64 (wrap64 ((rd_T51 t322 2).f1)), .int .i64 (wrap64 ((rd_T51 t322 3).f1)), .string (⟨#[]⟩ : ByteArray)]) ?_ 4 _ rfl; (with_reducible repeat (first | refine blk_drewN ?_ _ | refine blk_drew ?_ | refine blk_alloc ?_ _)); refine blk_put (cs := #[.int .i64 (wrap64 ((rd_T51 t322 0).f1)), .int .i64 (wrap64 ((rd_T51 t322 1).f1)), .int .i64 (wrap64 ((rd_T51 t322 2).f1)), .int .i64 0, .string (⟨#[]⟩ : ByteArray)]) ?_ 3 _ rfl; (with_reducible repeat (first | refine blk_drewN ?_ _ | refine blk_drew ?_ | refine blk_alloc ?_ _)); refine blk_put (cs := #[.int .i64 (wrap64 ((rd_T51 t322 0).f1)), .int .i64 (wrap64 ((rd_T51 t322 1).f1)), .int .i64 0, .int .i64 0, .string (⟨#[]⟩ : ByteArray)]) ?_ 2 _ rfl; (with_reducible repeat (first | refine blk_drewN ?_ _ | refine blk_drew ?_ | refine blk_alloc ?_ _)); refine blk_put (cs := #[.int .i64 (wrap64 ((rd_T51 t322 0).f1)), .int .i64 0, .int .i64 0, .int .i64 0, .string (⟨#[]⟩ : ByteArray)]) ?_ 1 _ rfl; (with_reducible repeat (first | refine blk_drewN ?_ _ | refine blk_drew ?_ | refine blk_alloc ?_ _)); refine blk_put (cs := #[.int .i64 0, .int .i64 0, .int .i64 0, .int .i64 0, .string (⟨#[]⟩ : ByteArray)]) ?_ 0 _ rfl; (with_reducible repeat (first | refine blk_drewN ?_ _ | refine blk_drew ?_ | refine blk_alloc ?_ _)); exact BK333.out) hb); have n3_ := Aside0.mk (below_step bw hb); clear HO325; clear BK321; clear BK333; clear HB; have HO325 := n0_; have BK321 := n1_; have BK333 := n2_; have HB := n3_; clear n0_ n1_ n2_ n3_; (try clear hb); (try clear hb2); (try clear hk); (try clear hi); have hcz49_0 := bc5_0 BK321.out; have hcz49_1 := bc5_1 BK321.out; have hcz49_2 := bc5_2 BK321.out; have hcz49_3 := bc5_3 BK321.out; have hcz49_4 := bc5_4 BK321.out; have hfz49_0 := blk_frozen BK321.out 0; have hfz49_1 := blk_frozen BK321.out 1; have hfz49_2 := blk_frozen BK321.out 2; have hfz49_3 := blk_frozen BK321.out 3; have hfz49_4 := blk_frozen BK321.out 4))
          refine bodyPost_ret (results_ct rfl _ _ gb321 25 #[.int .i64 0, .int .i64 0, .int .i64 0, .int .i64 0, .string (⟨#[]⟩ : ByteArray)] (0, 0) _ rfl (by (with_reducible repeat (first | refine blk_drewN ?_ _ | refine blk_drew ?_ | refine blk_alloc ?_ _)); refine blk_put (cs := #[.int .i64 0, .int .i64 0, .int .i64 0, .int .i64 0, .string (⟨#[]⟩ : ByteArray)]) ?_ 4 _ rfl; (with_reducible repeat (first | refine blk_drewN ?_ _ | refine blk_drew ?_ | refine blk_alloc ?_ _)); refine blk_put (cs := #[.int .i64 0, .int .i64 0, .int .i64 0, .int .i64 0, .string (⟨#[]⟩ : ByteArray)]) ?_ 3 _ rfl; (with_reducible repeat (first | refine blk_drewN ?_ _ | refine blk_drew ?_ | refine blk_alloc ?_ _)); refine blk_put (cs := #[.int .i64 0, .int .i64 0, .int .i64 0, .int .i64 0, .string (⟨#[]⟩ : ByteArray)]) ?_ 2 _ rfl; (with_reducible repeat (first | refine blk_drewN ?_ _ | refine blk_drew ?_ | refine blk_alloc ?_ _)); refine blk_put (cs := #[.int .i64 0, .int .i64 0, .int .i64 0, .int .i64 0, .string (⟨#[]⟩ : ByteArray)]) ?_ 1 _ rfl; (with_reducible repeat (first | refine blk_drewN ?_ _ | refine blk_drew ?_ | refine blk_alloc ?_ _)); refine blk_put (cs := #[.int .i64 0, .int .i64 0, .int .i64 0, .int .i64 0, .string (⟨#[]⟩ : ByteArray)]) ?_ 0 _ rfl; (with_reducible repeat (first | refine blk_drewN ?_ _ | refine blk_drew ?_ | refine blk_alloc ?_ _)); exact BK321.out) Tryd.underlying25 rfl (by kernel_rfl)) rfl ?_
          exact ⟨er, bw⟩
        ·rw [if_neg c18] at H
         exact absurd H (by simp)
       ·rw [if_neg c17] at H
        exact absurd H (by simp)
      ·rw [if_neg c16] at H
       exact absurd H (by simp)
    ·rw [if_neg c10] at H
     exact absurd H (by simp)
  ·rw [if_neg c4] at H
   exact absurd H (by simp)
 ·rw [if_neg c3] at H
  have c3b0 : (t323 == 0) = false := beq_eq_false_iff_ne.mpr c3
  have c3b1 : (t323 != 0) = true := bne_iff_ne.mpr c3
  simp only [Option.some.injEq, Prod.mk.injEq] at H
  obtain ⟨rfl, rfl, rfl, rfl, rfl, rfl⟩ := H
  go_enter Tryd.func10, Tryd.ntmps10
  go_wp2_with (first | ((with_reducible refine gate_dst (N := 2) rfl ?_); refine box_event ?hg (N := 2) ?hd (cs := #[.int .i64 0, .int .i64 0, .int .i64 0, .int .i64 0, .string (⟨#[]⟩ : ByteArray)]) (t := 25) ?hr ?_; (case hd => rfl); (case hg => rfl); (case hr => first | (go_simp; done) | (go_simp; rfl)); intro gb321 hg w50 hbox hb; have n0_ := Aside0.mk (below_step bw hb); have n1_ := Aside0.mk (hbox); have n2_ := Aside0.mk ((g1 hg bw : w.heap.size ≤ gb321)); have n3_ := Aside0.mk ((g1 hg bw : w.heap.size ≤ gb321)); clear HB; have HB := n0_; have BK321 := n1_; have GW321 := n2_; have GE321 := n3_; clear n0_ n1_ n2_ n3_; clear hb hbox hg) | ((with_reducible refine gate_callee (f := 20) rfl ?_); refine goesL_ (some 10) rfl rfl Tryd.func20 (by kernel_rfl) rfl #[.string (⟨#[108, 98, 108, 98, 116]⟩ : ByteArray), .string a0] rfl am ?_; (with_reducible refine (carillonref01_Decode.calls k (⟨#[108, 98, 108, 98, 116]⟩ : ByteArray) a0 t322 t323 _ A2.out).mono ?_); rintro e w51 ⟨v324, rfl, ho0, hb⟩; refine ⟨_, rfl, ?_⟩; have n0_ := Aside0.mk (Kd.R_lower ho0 (below_size bw)); have n1_ := Aside0.mk (nb BK321.out hb); have n2_ := Aside0.mk (below_step bw hb); clear BK321; clear HB; have HO325 := n0_; have BK321 := n1_; have HB := n2_; clear n0_ n1_ n2_; (try clear hb); (try clear hb2); (try clear hk); (try clear hi); (try clear ho0); have hcz52_0 := bc5_0 BK321.out; have hcz52_1 := bc5_1 BK321.out; have hcz52_2 := bc5_2 BK321.out; have hcz52_3 := bc5_3 BK321.out; have hcz52_4 := bc5_4 BK321.out; have hfz52_0 := blk_frozen BK321.out 0; have hfz52_1 := blk_frozen BK321.out 1; have hfz52_2 := blk_frozen BK321.out 2; have hfz52_3 := blk_frozen BK321.out 3; have hfz52_4 := blk_frozen BK321.out 4))
  refine bodyPost_ret (results_ct rfl _ _ gb321 25 #[.int .i64 0, .int .i64 0, .int .i64 0, .int .i64 0, .string (⟨#[]⟩ : ByteArray)] (0, 0) _ rfl (by (with_reducible repeat (first | refine blk_drewN ?_ _ | refine blk_drew ?_ | refine blk_alloc ?_ _)); refine blk_put (cs := #[.int .i64 0, .int .i64 0, .int .i64 0, .int .i64 0, .string (⟨#[]⟩ : ByteArray)]) ?_ 4 _ rfl; (with_reducible repeat (first | refine blk_drewN ?_ _ | refine blk_drew ?_ | refine blk_alloc ?_ _)); refine blk_put (cs := #[.int .i64 0, .int .i64 0, .int .i64 0, .int .i64 0, .string (⟨#[]⟩ : ByteArray)]) ?_ 3 _ rfl; (with_reducible repeat (first | refine blk_drewN ?_ _ | refine blk_drew ?_ | refine blk_alloc ?_ _)); refine blk_put (cs := #[.int .i64 0, .int .i64 0, .int .i64 0, .int .i64 0, .string (⟨#[]⟩ : ByteArray)]) ?_ 2 _ rfl; (with_reducible repeat (first | refine blk_drewN ?_ _ | refine blk_drew ?_ | refine blk_alloc ?_ _)); refine blk_put (cs := #[.int .i64 0, .int .i64 0, .int .i64 0, .int .i64 0, .string (⟨#[]⟩ : ByteArray)]) ?_ 1 _ rfl; (with_reducible repeat (first | refine blk_drewN ?_ _ | refine blk_drew ?_ | refine blk_alloc ?_ _)); refine blk_put (cs := #[.int .i64 0, .int .i64 0, .int .i64 0, .int .i64 0, .string (⟨#[]⟩ : ByteArray)]) ?_ 0 _ rfl; (with_reducible repeat (first | refine blk_drewN ?_ _ | refine blk_drew ?_ | refine blk_alloc ?_ _)); exact BK321.out) Tryd.underlying25 rfl (by kernel_rfl)) rfl ?_
  exact ⟨er, bw⟩

end Go.Proofs.YtocgbfcjmgpleaaDoor.P
