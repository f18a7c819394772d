-- Printed by this session's program wip/xp.py (a turned copy of the kit's printer): functions, their contracts.
import Derived.Test.YtdpogggajdfedaaDoorPx0
import Derived.Test.YtdpogggajdfedaaDoorPx5
import Derived.Test.YtdpogggajdfedaaDoorPx18
namespace Go.Proofs.YtdpogggajdfedaaDoor.P
open Go.RowKit Go.Proofs.YtdpogggajdfedaaDoorW.PrintWords Go.Proofs.YtdpogggajdfedaaDoorW.PrintLast Go.Proofs.YtdpogggajdfedaaDoorW.PrintMore
attribute [local go_sem] max2_int min2_int max_two min_two max_three min_three max_four min_four   -- for this text's walks alone
set_option linter.unusedVariables false
set_option linter.unusedSimpArgs false

/-! ### carillonref09_Encode: function 7 -/
def carillonref09_Encode.f (k : Nat) (a0_0 : Int) (a0_1 : Int) (a0_2 : Int) (a0_3 : Int) (a0_4 : ByteArray) : Option (ByteArray × Bool) := (carillonref09_Right.f a0_0 a0_1 a0_2 a0_3 a0_4).bind fun t181 => (if t181 = true then ((carillonref01_Encode.f k (([(⟨3, IntKind.u64.wrap (a0_0), (⟨#[]⟩ : ByteArray)⟩ : S50), (⟨3, IntKind.u64.wrap (a0_1), (⟨#[]⟩ : ByteArray)⟩ : S50), (⟨3, IntKind.u64.wrap (a0_2), (⟨#[]⟩ : ByteArray)⟩ : S50), (⟨3, IntKind.u64.wrap (a0_3), (⟨#[]⟩ : ByteArray)⟩ : S50), (⟨4, 0, a0_4⟩ : S50)] : List (S50)))).bind fun bt185 => ((carillonref02_Frame.f k bt185.1).bind fun bt187 => (some (bt187.1, true)))) else (some ((⟨#[]⟩ : ByteArray), false)))
theorem carillonref09_Encode.mono : ∀ a0 a1 a2 a3 a4 k, LeO (carillonref09_Encode.f k a0 a1 a2 a3 a4) (carillonref09_Encode.f (k + 1) a0 a1 a2 a3 a4) := by
 intro a0 a1 a2 a3 a4 k
 unfold carillonref09_Encode.f
 repeat' first
   | (with_reducible exact carillonref01_Encode.mono _ _)
   | (with_reducible exact carillonref02_Frame.mono _ _)
   | (with_reducible exact LeO.refl _)
   | (with_reducible exact LeO.none _)
   | (with_reducible refine LeO.ite ?_ ?_)
   | (with_reducible refine LeO.bind ?_ (fun _ => ?_))
   | exact carillonref01_Encode.mono _ _
   | exact carillonref02_Frame.mono _ _
   | exact LeO.none _
   | refine LeO.ite ?_ ?_
   | refine LeO.bind ?_ (fun _ => ?_)
set_option maxHeartbeats 8000000 in
set_option maxRecDepth 100000 in
theorem carillonref09_Encode.calls (k : Nat) (a0_0 : Int) (a0_1 : Int) (a0_2 : Int) (a0_3 : Int) (a0_4 : ByteArray) (r1 : ByteArray) (r2 : Bool) (w : World) (h : carillonref09_Encode.f k a0_0 a0_1 a0_2 a0_3 a0_4 = some (r1, r2)) :
  Calls Tryd.prog 7 #[.agg #[.int .i64 a0_0, .int .i64 a0_1, .int .i64 a0_2, .int .i64 a0_3, .string a0_4]] w fun e w' => e = .returned (.tuple #[.string r1, .bool r2]) ∧ Below w.heap.size w w' := by
 have hu23 := Tryd.underlying23
 have hu50 := Tryd.underlying50
 have HB := Aside0.mk (Below.refl w.heap.size w)
 have H : ((carillonref09_Right.f a0_0 a0_1 a0_2 a0_3 a0_4).bind fun t181 => (if t181 = true then ((carillonref01_Encode.f k (([(⟨3, IntKind.u64.wrap (a0_0), (⟨#[]⟩ : ByteArray)⟩ : S50), (⟨3, IntKind.u64.wrap (a0_1), (⟨#[]⟩ : ByteArray)⟩ : S50), (⟨3, IntKind.u64.wrap (a0_2), (⟨#[]⟩ : ByteArray)⟩ : S50), (⟨3, IntKind.u64.wrap (a0_3), (⟨#[]⟩ : ByteArray)⟩ : S50), (⟨4, 0, a0_4⟩ : S50)] : List (S50)))).bind fun bt185 => ((carillonref02_Frame.f k bt185.1).bind fun bt187 => (some (bt187.1, true)))) else (some ((⟨#[]⟩ : ByteArray), false)))) = some (r1, r2) := h
 clear h
 replace H := Option.bind_eq_some_iff.mp H
 obtain ⟨t181, A20, H⟩ := H
 replace H : (if t181 = true then ((carillonref01_Encode.f k (([(⟨3, IntKind.u64.wrap (a0_0), (⟨#[]⟩ : ByteArray)⟩ : S50), (⟨3, IntKind.u64.wrap (a0_1), (⟨#[]⟩ : ByteArray)⟩ : S50), (⟨3, IntKind.u64.wrap (a0_2), (⟨#[]⟩ : ByteArray)⟩ : S50), (⟨3, IntKind.u64.wrap (a0_3), (⟨#[]⟩ : ByteArray)⟩ : S50), (⟨4, 0, a0_4⟩ : S50)] : List (S50)))).bind fun bt185 => ((carillonref02_Frame.f k bt185.1).bind fun bt187 => (some (bt187.1, true)))) else (some ((⟨#[]⟩ : ByteArray), false))) = some (r1, r2) := H
 have A2 := Aside0.mk A20
 clear A20
 by_cases c3 : t181 = true; rotate_left
 ·replace c3 := Bool.eq_false_iff.mpr c3
  subst c3
  have H1 : (some ((⟨#[]⟩ : ByteArray), false)) = some (r1, r2) := by rw [if_neg (show ¬ (false = true) by decide)] at H; exact H
  clear H
  have H := H1
  clear H1
  simp only [Option.some.injEq, Prod.mk.injEq] at H
  obtain ⟨rfl, rfl⟩ := H
  go_enter Tryd.func7, Tryd.ntmps7
  go_wp2_with (first | ((with_reducible refine gate_dst (N := 1) rfl ?_); refine box_event ?hg (N := 1) ?hd (cs := #[.int .i64 a0_0, .int .i64 a0_1, .int .i64 a0_2, .int .i64 a0_3, .string a0_4]) (t := 23) ?hr ?_; (case hd => rfl); (case hg => rfl); (case hr => first | (go_simp; done) | (go_simp; rfl)); intro ac hg w15 hbox hb; have n0_ := Aside0.mk (below_step bw hb); have n1_ := Aside0.mk (hbox); have n2_ := Aside0.mk ((g1 hg bw : w.heap.size ≤ ac)); have n3_ := Aside0.mk ((g1 hg bw : w.heap.size ≤ ac)); clear HB; have HB := n0_; have aa := n1_; have GW180 := n2_; have GE180 := n3_; clear n0_ n1_ n2_ n3_; clear hb hbox hg; obtain ⟨hcz16_0, hcz16_1, hcz16_2, hcz16_3, hcz16_4, hfz16_0, hfz16_1, hfz16_2, hfz16_3, hfz16_4⟩ := bx5 aa.out) | ((with_reducible refine gate_callee (f := 18) rfl ?_); refine goesL_ (some 10) rfl rfl Tryd.func18 (by kernel_rfl) rfl #[.agg #[.int .i64 a0_0, .int .i64 a0_1, .int .i64 a0_2, .int .i64 a0_3, .string a0_4]] rfl am ?_; (with_reducible refine (carillonref09_Right.calls a0_0 a0_1 a0_2 a0_3 a0_4 false _ A2.out).mono ?_); rintro e w17 ⟨rfl, hb⟩; refine ⟨_, rfl, ?_⟩; have n0_ := Aside0.mk (nb aa.out hb); have n1_ := Aside0.mk (below_step bw hb); clear aa; clear HB; have aa := n0_; have HB := n1_; clear n0_ n1_; (try clear hb)))
  go_ret2
  exact ⟨er, bw⟩
 subst c3
 have H1 : ((carillonref01_Encode.f k (([(⟨3, IntKind.u64.wrap (a0_0), (⟨#[]⟩ : ByteArray)⟩ : S50), (⟨3, IntKind.u64.wrap (a0_1), (⟨#[]⟩ : ByteArray)⟩ : S50), (⟨3, IntKind.u64.wrap (a0_2), (⟨#[]⟩ : ByteArray)⟩ : S50), (⟨3, IntKind.u64.wrap (a0_3), (⟨#[]⟩ : ByteArray)⟩ : S50), (⟨4, 0, a0_4⟩ : S50)] : List (S50)))).bind fun bt185 => ((carillonref02_Frame.f k bt185.1).bind fun bt187 => (some (bt187.1, true)))) = some (r1, r2) := by rw [if_pos rfl] at H; exact H
 clear H
 have H := H1
 clear H1
 obtain ⟨y182, hy182⟩ : ∃ y_ : List (S50), y_ = (([(⟨3, IntKind.u64.wrap (a0_0), (⟨#[]⟩ : ByteArray)⟩ : S50), (⟨3, IntKind.u64.wrap (a0_1), (⟨#[]⟩ : ByteArray)⟩ : S50), (⟨3, IntKind.u64.wrap (a0_2), (⟨#[]⟩ : ByteArray)⟩ : S50), (⟨3, IntKind.u64.wrap (a0_3), (⟨#[]⟩ : ByteArray)⟩ : S50), (⟨4, 0, a0_4⟩ : S50)] : List (S50))) := ⟨_, rfl⟩
 replace H : ((carillonref01_Encode.f k y182).bind fun bt185 => ((carillonref02_Frame.f k bt185.1).bind fun bt187 => (some (bt187.1, true)))) = some (r1, r2) := by first | (rw [hy182]; with_reducible exact H) | (have H2_ := (Option.bind_some _ _).symm.trans H; rw [hy182]; with_reducible exact H2_) | (have H2_ := (Option.bind_some _ _).symm.trans H; with_reducible exact H2_) | with_reducible exact H | (rw [hy182]; exact H) | exact H
 have Ny182 := Aside0.mk hy182
 clear hy182
 replace H := Option.bind_eq_some_iff.mp H
 obtain ⟨⟨t185, t186⟩, A40, H⟩ := H
 replace H : ((carillonref02_Frame.f k t185).bind fun bt187 => (some (bt187.1, true))) = some (r1, r2) := H
 have A4 := Aside0.mk A40
 clear A40
 replace H := Option.bind_eq_some_iff.mp H
 obtain ⟨⟨t187, t188⟩, A50, H⟩ := H
 replace H : (some (t187, true)) = some (r1, r2) := H
 have A5 := Aside0.mk A50
 clear A50
 simp only [Option.some.injEq, Prod.mk.injEq] at H
 obtain ⟨rfl, rfl⟩ := H
 go_enter Tryd.func7, Tryd.ntmps7
 go_wp2_with (first | ((with_reducible refine gate_dst (N := 1) rfl ?_); refine box_event ?hg (N := 1) ?hd (cs := #[.int .i64 a0_0, .int .i64 a0_1, .int .i64 a0_2, .int .i64 a0_3, .string a0_4]) (t := 23) ?hr ?_; (case hd => rfl); (case hg => rfl); (case hr => first | (go_simp; done) | (go_simp; rfl)); intro ac hg w6 hbox hb; have n0_ := Aside0.mk (below_step bw hb); have n1_ := Aside0.mk (hbox); have n2_ := Aside0.mk ((g1 hg bw : w.heap.size ≤ ac)); have n3_ := Aside0.mk ((g1 hg bw : w.heap.size ≤ ac)); clear HB; have HB := n0_; have aa := n1_; have GW180 := n2_; have GE180 := n3_; clear n0_ n1_ n2_ n3_; clear hb hbox hg; obtain ⟨hcz7_0, hcz7_1, hcz7_2, hcz7_3, hcz7_4, hfz7_0, hfz7_1, hfz7_2, hfz7_3, hfz7_4⟩ := bx5 aa.out) | ((with_reducible refine gate_callee (f := 18) rfl ?_); refine goesL_ (some 10) rfl rfl Tryd.func18 (by kernel_rfl) rfl #[.agg #[.int .i64 a0_0, .int .i64 a0_1, .int .i64 a0_2, .int .i64 a0_3, .string a0_4]] rfl am ?_; (with_reducible refine (carillonref09_Right.calls a0_0 a0_1 a0_2 a0_3 a0_4 true _ A2.out).mono ?_); rintro e w8 ⟨rfl, hb⟩; refine ⟨_, rfl, ?_⟩; have n0_ := Aside0.mk (nb aa.out hb); have n1_ := Aside0.mk (below_step bw hb); clear aa; clear HB; have aa := n0_; have HB := n1_; clear n0_ n1_; (try clear hb); obtain ⟨hcz9_0, hcz9_1, hcz9_2, hcz9_3, hcz9_4, hfz9_0, hfz9_1, hfz9_2, hfz9_3, hfz9_4⟩ := bx5 aa.out) | ((with_reducible refine gate_dst (N := 33) rfl ?_); refine Kd.R_lit k50 _ 50 ?hg (N := 33) ?hd (xs := ([(⟨3, IntKind.u64.wrap (a0_0), (⟨#[]⟩ : ByteArray)⟩ : S50), (⟨3, IntKind.u64.wrap (a0_1), (⟨#[]⟩ : ByteArray)⟩ : S50), (⟨3, IntKind.u64.wrap (a0_2), (⟨#[]⟩ : ByteArray)⟩ : S50), (⟨3, IntKind.u64.wrap (a0_3), (⟨#[]⟩ : ByteArray)⟩ : S50), (⟨4, 0, a0_4⟩ : S50)] : List (S50))) (inner := [.int .i64 3, .int .u64 (IntKind.u64.wrap (a0_0)), .string (⟨#[]⟩ : ByteArray), .int .i64 3, .int .u64 (IntKind.u64.wrap (a0_1)), .string (⟨#[]⟩ : ByteArray), .int .i64 3, .int .u64 (IntKind.u64.wrap (a0_2)), .string (⟨#[]⟩ : ByteArray), .int .i64 3, .int .u64 (IntKind.u64.wrap (a0_3)), .string (⟨#[]⟩ : ByteArray), .int .i64 4, .int .u64 0, .string a0_4]) (ok := fun _ => True) (okp := fun _ => True) ?hr ?hp (fun _ hk => hk) trivial (Below.refl _ _) (Nat.le_refl _) (by simp) ?_; (case hd => rfl); (case hg => rfl); (case hr => first | (go_simp; done) | (go_simp; rfl)); (case hp => exact (Reps.c3 (show Kd.M k50 _ _ _ (⟨3, IntKind.u64.wrap (a0_0), (⟨#[]⟩ : ByteArray)⟩ : S50) [.int .i64 3, .int .u64 (IntKind.u64.wrap (a0_0)), .string (⟨#[]⟩ : ByteArray)] from (k50_mkM _ _ _ (⟨3, IntKind.u64.wrap (a0_0), (⟨#[]⟩ : ByteArray)⟩ : S50) )) (Reps.c3 (show Kd.M k50 _ _ _ (⟨3, IntKind.u64.wrap (a0_1), (⟨#[]⟩ : ByteArray)⟩ : S50) [.int .i64 3, .int .u64 (IntKind.u64.wrap (a0_1)), .string (⟨#[]⟩ : ByteArray)] from (k50_mkM _ _ _ (⟨3, IntKind.u64.wrap (a0_1), (⟨#[]⟩ : ByteArray)⟩ : S50) )) (Reps.c3 (show Kd.M k50 _ _ _ (⟨3, IntKind.u64.wrap (a0_2), (⟨#[]⟩ : ByteArray)⟩ : S50) [.int .i64 3, .int .u64 (IntKind.u64.wrap (a0_2)), .string (⟨#[]⟩ : ByteArray)] from (k50_mkM _ _ _ (⟨3, IntKind.u64.wrap (a0_2), (⟨#[]⟩ : ByteArray)⟩ : S50) )) (Reps.c3 (show Kd.M k50 _ _ _ (⟨3, IntKind.u64.wrap (a0_3), (⟨#[]⟩ : ByteArray)⟩ : S50) [.int .i64 3, .int .u64 (IntKind.u64.wrap (a0_3)), .string (⟨#[]⟩ : ByteArray)] from (k50_mkM _ _ _ (⟨3, IntKind.u64.wrap (a0_3), (⟨#[]⟩ : ByteArray)⟩ : S50) )) (Reps.c3 (show Kd.M k50 _ _ _ (⟨4, 0, a0_4⟩ : S50) [.int .i64 4, .int .u64 0, .string a0_4] from (k50_mkM _ _ _ (⟨4, 0, a0_4⟩ : S50) )) (Reps.none _ _))))))); intro v183 w10 ho11 hb hg_ hnew_; clear hg_ hnew_; (first | rw [← Ny182.out] at ho11 | (simp only [Int.reduceToNat] at ho11; rw [← Ny182.out] at ho11)); have n0_ := Aside0.mk (Kd.R_lower ho11 (below_size bw)); have n1_ := Aside0.mk (nb aa.out hb); have n2_ := Aside0.mk (below_step bw hb); clear aa; clear HB; have ab := n0_; have aa := n1_; have HB := n2_; clear n0_ n1_ n2_; clear hb ho11; obtain ⟨Ao12, co12, eo12⟩ := Kd.R_slice ab.out; subst eo12) | ((with_reducible refine gate_callee (f := 19) rfl ?_); refine goesL_ (some 34) rfl rfl Tryd.func19 (by kernel_rfl) rfl #[.slice Ao12 y182.length co12] rfl am ?_; (with_reducible refine (carillonref01_Encode.calls k _ _ y182 t185 t186 _ ?side1 ?side2 A4.out).mono ?_); (case side1 => repeat (first | exact (Kd.R_reads' ab.out).2.2 | (with_reducible refine Kd.C_alloc ?_ _) | (with_reducible refine Kd.C_drewN ?_ _) | (with_reducible refine Kd.C_drew ?_))); (case side2 => exact (Kd.R_reads' ab.out).2.1); rintro e w13 ⟨rfl, hb⟩; refine ⟨_, rfl, ?_⟩; have n0_ := Aside0.mk (Kd.R_below (by (with_reducible repeat (first | apply Kd.R_alloc | apply Kd.R_drewN | apply Kd.R_drew)); exact ab.out) hb); have n1_ := Aside0.mk (nb aa.out hb); have n2_ := Aside0.mk (below_step bw hb); clear ab; clear aa; clear HB; have ab := n0_; have aa := n1_; have HB := n2_; clear n0_ n1_ n2_; (try clear hb)) | ((with_reducible refine gate_callee (f := 20) rfl ?_); refine goesL_ (some 39) rfl rfl Tryd.func20 (by kernel_rfl) rfl #[.string t185] rfl am ?_; (with_reducible refine (carillonref02_Frame.calls k t185 t187 t188 _ A5.out).mono ?_); rintro e w14 ⟨rfl, hb⟩; refine ⟨_, rfl, ?_⟩; have n0_ := Aside0.mk (Kd.R_below (by (with_reducible repeat (first | apply Kd.R_alloc | apply Kd.R_drewN | apply Kd.R_drew)); exact ab.out) hb); have n1_ := Aside0.mk (nb aa.out hb); have n2_ := Aside0.mk (below_step bw hb); clear ab; clear aa; clear HB; have ab := n0_; have aa := n1_; have HB := n2_; clear n0_ n1_ n2_; (try clear hb)))
 go_ret2
 exact ⟨er, bw⟩

end Go.Proofs.YtdpogggajdfedaaDoor.P
