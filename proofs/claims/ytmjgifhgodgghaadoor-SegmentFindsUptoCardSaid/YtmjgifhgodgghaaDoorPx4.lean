-- Printed by this session's program wip/xp.py (a turned copy of the kit's printer): functions, their contracts.
import Derived.Test.YtmjgifhgodgghaaDoorPx0
import Derived.Test.YtmjgifhgodgghaaDoorPx3
namespace Go.Proofs.YtmjgifhgodgghaaDoor.P
open Go.RowKit Go.Proofs.YtmjgifhgodgghaaDoorW.PrintWords Go.Proofs.YtmjgifhgodgghaaDoorW.PrintLast Go.Proofs.YtmjgifhgodgghaaDoorW.PrintMore
attribute [local go_sem] max2_int min2_int max_two min_two max_three min_three max_four min_four   -- for this text's walks alone
set_option linter.unusedVariables false
set_option linter.unusedSimpArgs false

/-! ### segment_One: function 10 -/
def segment_One.f (k : Nat) (a0_0 : Int) (a0_1 : ByteArray) (a0_2 : Int) (a0_3 : ByteArray) (a0_4 : ByteArray) : Option (ByteArray × Int) := (segment_Right.f a0_0 a0_1 a0_2 a0_3 a0_4).bind fun t129 => (if t129 = true then ((codec_Encode.f k (([(⟨3, IntKind.u64.wrap (a0_0), (⟨#[]⟩ : ByteArray)⟩ : S60), (⟨4, 0, a0_1⟩ : S60), (⟨3, IntKind.u64.wrap (a0_2), (⟨#[]⟩ : ByteArray)⟩ : S60), (⟨4, 0, a0_3⟩ : S60), (⟨4, 0, a0_4⟩ : S60)] : List (S60)))).bind fun bt133 => (if bt133.2 = 0 then ((crc_Frame.f bt133.1).bind fun bt135 => (some (bt135.1, bt135.2))) else (some ((⟨#[]⟩ : ByteArray), bt133.2)))) else (some ((⟨#[]⟩ : ByteArray), 1)))
theorem segment_One.mono : ∀ a0 a1 a2 a3 a4 k, LeO (segment_One.f k a0 a1 a2 a3 a4) (segment_One.f (k + 1) a0 a1 a2 a3 a4) := by
 intro a0 a1 a2 a3 a4 k
 unfold segment_One.f
 repeat' first
   | (with_reducible exact codec_Encode.mono _ _)
   | (with_reducible exact LeO.refl _)
   | (with_reducible exact LeO.none _)
   | (with_reducible refine LeO.ite ?_ ?_)
   | (with_reducible refine LeO.bind ?_ (fun _ => ?_))
   | exact codec_Encode.mono _ _
   | exact LeO.none _
   | refine LeO.ite ?_ ?_
   | refine LeO.bind ?_ (fun _ => ?_)
set_option maxHeartbeats 8000000 in
set_option maxRecDepth 100000 in
theorem segment_One.calls (k : Nat) (a0_0 : Int) (a0_1 : ByteArray) (a0_2 : Int) (a0_3 : ByteArray) (a0_4 : ByteArray) (r1 : ByteArray) (r2 : Int) (w : World) (HT_ : TabOk w) (h : segment_One.f k a0_0 a0_1 a0_2 a0_3 a0_4 = some (r1, r2)) :
  Calls Tryd.prog 10 #[.agg #[.int .i64 a0_0, .string a0_1, .int .i64 a0_2, .string a0_3, .string a0_4]] w fun e w' => e = .returned (.tuple #[.string r1, .int .i64 r2]) ∧ Below w.heap.size w w' := by
 have HT := Aside0.mk HT_
 clear HT_
 have hu23 := Tryd.underlying23
 have hu60 := Tryd.underlying60
 have HB := Aside0.mk (Below.refl w.heap.size w)
 have H : ((segment_Right.f a0_0 a0_1 a0_2 a0_3 a0_4).bind fun t129 => (if t129 = true then ((codec_Encode.f k (([(⟨3, IntKind.u64.wrap (a0_0), (⟨#[]⟩ : ByteArray)⟩ : S60), (⟨4, 0, a0_1⟩ : S60), (⟨3, IntKind.u64.wrap (a0_2), (⟨#[]⟩ : ByteArray)⟩ : S60), (⟨4, 0, a0_3⟩ : S60), (⟨4, 0, a0_4⟩ : S60)] : List (S60)))).bind fun bt133 => (if bt133.2 = 0 then ((crc_Frame.f bt133.1).bind fun bt135 => (some (bt135.1, bt135.2))) else (some ((⟨#[]⟩ : ByteArray), bt133.2)))) else (some ((⟨#[]⟩ : ByteArray), 1)))) = some (r1, r2) := h
 clear h
 replace H := Option.bind_eq_some_iff.mp H
 obtain ⟨t129, A20, H⟩ := H
 replace H : (if t129 = true then ((codec_Encode.f k (([(⟨3, IntKind.u64.wrap (a0_0), (⟨#[]⟩ : ByteArray)⟩ : S60), (⟨4, 0, a0_1⟩ : S60), (⟨3, IntKind.u64.wrap (a0_2), (⟨#[]⟩ : ByteArray)⟩ : S60), (⟨4, 0, a0_3⟩ : S60), (⟨4, 0, a0_4⟩ : S60)] : List (S60)))).bind fun bt133 => (if bt133.2 = 0 then ((crc_Frame.f bt133.1).bind fun bt135 => (some (bt135.1, bt135.2))) else (some ((⟨#[]⟩ : ByteArray), bt133.2)))) else (some ((⟨#[]⟩ : ByteArray), 1))) = some (r1, r2) := H
 have A2 := Aside0.mk A20
 clear A20
 by_cases c3 : t129 = true
 ·subst c3
  have H1 : ((codec_Encode.f k (([(⟨3, IntKind.u64.wrap (a0_0), (⟨#[]⟩ : ByteArray)⟩ : S60), (⟨4, 0, a0_1⟩ : S60), (⟨3, IntKind.u64.wrap (a0_2), (⟨#[]⟩ : ByteArray)⟩ : S60), (⟨4, 0, a0_3⟩ : S60), (⟨4, 0, a0_4⟩ : S60)] : List (S60)))).bind fun bt133 => (if bt133.2 = 0 then ((crc_Frame.f bt133.1).bind fun bt135 => (some (bt135.1, bt135.2))) else (some ((⟨#[]⟩ : ByteArray), bt133.2)))) = some (r1, r2) := by rw [if_pos rfl] at H; exact H
  clear H
  have H := H1
  clear H1
  obtain ⟨y130, hy130⟩ : ∃ y_ : List (S60), y_ = (([(⟨3, IntKind.u64.wrap (a0_0), (⟨#[]⟩ : ByteArray)⟩ : S60), (⟨4, 0, a0_1⟩ : S60), (⟨3, IntKind.u64.wrap (a0_2), (⟨#[]⟩ : ByteArray)⟩ : S60), (⟨4, 0, a0_3⟩ : S60), (⟨4, 0, a0_4⟩ : S60)] : List (S60))) := ⟨_, rfl⟩
  replace H : ((codec_Encode.f k y130).bind fun bt133 => (if bt133.2 = 0 then ((crc_Frame.f bt133.1).bind fun bt135 => (some (bt135.1, bt135.2))) else (some ((⟨#[]⟩ : ByteArray), bt133.2)))) = some (r1, r2) := by first | (rw [hy130]; with_reducible exact H) | (have H2_ := (Option.bind_some _ _).symm.trans H; rw [hy130]; with_reducible exact H2_) | (have H2_ := (Option.bind_some _ _).symm.trans H; with_reducible exact H2_) | with_reducible exact H | (rw [hy130]; exact H) | exact H
  have Ny130 := Aside0.mk hy130
  clear hy130
  replace H := Option.bind_eq_some_iff.mp H
  obtain ⟨⟨t133, t134⟩, A40, H⟩ := H
  replace H : (if t134 = 0 then ((crc_Frame.f t133).bind fun bt135 => (some (bt135.1, bt135.2))) else (some ((⟨#[]⟩ : ByteArray), t134))) = some (r1, r2) := H
  have A4 := Aside0.mk A40
  clear A40
  by_cases c5 : t134 = 0
  ·rw [if_pos c5] at H
   have c5b0 : (t134 == 0) = true := beq_iff_eq.mpr c5
   have c5b1 : (t134 != 0) = false := bne_eq_false_iff_eq.mpr c5
   clear c5
   replace H := Option.bind_eq_some_iff.mp H
   obtain ⟨⟨t135, t136⟩, A60, H⟩ := H
   replace H : (some (t135, t136)) = some (r1, r2) := H
   have A6 := Aside0.mk A60
   clear A60
   simp only [Option.some.injEq, Prod.mk.injEq] at H
   obtain ⟨rfl, rfl⟩ := H
   go_enter Tryd.func10, Tryd.ntmps10
   go_wp2_with (first | ((with_reducible refine gate_dst (N := 1) rfl ?_); refine box_event ?hg (N := 1) ?hd (cs := #[.int .i64 a0_0, .string a0_1, .int .i64 a0_2, .string a0_3, .string a0_4]) (t := 23) ?hr ?_; (case hd => rfl); (case hg => rfl); (case hr => first | (go_simp; done) | (go_simp; rfl)); intro gb128 hg w7 hbox hb; have n0_ := Aside0.mk (below_step bw hb); have n1_ := Aside0.mk (hbox); have n2_ := Aside0.mk ((g1 hg bw : w.heap.size ≤ gb128)); have n3_ := Aside0.mk ((g1 hg bw : w.heap.size ≤ gb128)); clear HB; have HB := n0_; have BK128 := n1_; have GW128 := n2_; have GE128 := n3_; clear n0_ n1_ n2_ n3_; clear hb hbox hg; have hcz8_0 := bc5_0 BK128.out; have hcz8_1 := bc5_1 BK128.out; have hcz8_2 := bc5_2 BK128.out; have hcz8_3 := bc5_3 BK128.out; have hcz8_4 := bc5_4 BK128.out; have hfz8_0 := blk_frozen BK128.out 0; have hfz8_1 := blk_frozen BK128.out 1; have hfz8_2 := blk_frozen BK128.out 2; have hfz8_3 := blk_frozen BK128.out 3; have hfz8_4 := blk_frozen BK128.out 4) | ((with_reducible refine gate_callee (f := 12) rfl ?_); refine goesL_ (some 7) rfl rfl Tryd.func12 (by kernel_rfl) rfl #[.agg #[.int .i64 a0_0, .string a0_1, .int .i64 a0_2, .string a0_3, .string a0_4]] rfl am ?_; (with_reducible refine (segment_Right.calls a0_0 a0_1 a0_2 a0_3 a0_4 true _ A2.out).mono ?_); rintro e w9 ⟨rfl, hb⟩; refine ⟨_, rfl, ?_⟩; have n0_ := Aside0.mk (nb BK128.out hb); have n1_ := Aside0.mk (below_step bw hb); clear BK128; clear HB; have BK128 := n0_; have HB := n1_; clear n0_ n1_; (try clear hb); (try clear hb2); (try clear hk); (try clear hi); have hcz10_0 := bc5_0 BK128.out; have hcz10_1 := bc5_1 BK128.out; have hcz10_2 := bc5_2 BK128.out; have hcz10_3 := bc5_3 BK128.out; have hcz10_4 := bc5_4 BK128.out; have hfz10_0 := blk_frozen BK128.out 0; have hfz10_1 := blk_frozen BK128.out 1; have hfz10_2 := blk_frozen BK128.out 2; have hfz10_3 := blk_frozen BK128.out 3; have hfz10_4 := blk_frozen BK128.out 4) | ((with_reducible refine gate_dst (N := 27) rfl ?_); refine Kd.R_lit k60 _ 60 ?hg (N := 27) ?hd (xs := ([(⟨3, IntKind.u64.wrap (a0_0), (⟨#[]⟩ : ByteArray)⟩ : S60), (⟨4, 0, a0_1⟩ : S60), (⟨3, IntKind.u64.wrap (a0_2), (⟨#[]⟩ : ByteArray)⟩ : S60), (⟨4, 0, a0_3⟩ : S60), (⟨4, 0, a0_4⟩ : S60)] : List (S60))) (inner := [.int .i64 3, .int .u64 (IntKind.u64.wrap (a0_0)), .string (⟨#[]⟩ : ByteArray), .int .i64 4, .int .u64 0, .string a0_1, .int .i64 3, .int .u64 (IntKind.u64.wrap (a0_2)), .string (⟨#[]⟩ : ByteArray), .int .i64 4, .int .u64 0, .string a0_3, .int .i64 4, .int .u64 0, .string a0_4]) (ok := fun _ => True) (okp := fun _ => True) ?hr ?hp (fun _ hk => hk) trivial (Below.refl _ _) (Nat.le_refl _) (by simp) ?_; (case hd => rfl); (case hg => rfl); (case hr => first | (go_simp; done) | (go_simp; rfl)); (case hp => exact (Reps.c3 (show Kd.M k60 _ _ _ (⟨3, IntKind.u64.wrap (a0_0), (⟨#[]⟩ : ByteArray)⟩ : S60) [.int .i64 3, .int .u64 (IntKind.u64.wrap (a0_0)), .string (⟨#[]⟩ : ByteArray)] from (k60_mkM _ _ _ (⟨3, IntKind.u64.wrap (a0_0), (⟨#[]⟩ : ByteArray)⟩ : S60) )) (Reps.c3 (show Kd.M k60 _ _ _ (⟨4, 0, a0_1⟩ : S60) [.int .i64 4, .int .u64 0, .string a0_1] from (k60_mkM _ _ _ (⟨4, 0, a0_1⟩ : S60) )) (Reps.c3 (show Kd.M k60 _ _ _ (⟨3, IntKind.u64.wrap (a0_2), (⟨#[]⟩ : ByteArray)⟩ : S60) [.int .i64 3, .int .u64 (IntKind.u64.wrap (a0_2)), .string (⟨#[]⟩ : ByteArray)] from (k60_mkM _ _ _ (⟨3, IntKind.u64.wrap (a0_2), (⟨#[]⟩ : ByteArray)⟩ : S60) )) (Reps.c3 (show Kd.M k60 _ _ _ (⟨4, 0, a0_3⟩ : S60) [.int .i64 4, .int .u64 0, .string a0_3] from (k60_mkM _ _ _ (⟨4, 0, a0_3⟩ : S60) )) (Reps.c3 (show Kd.M k60 _ _ _ (⟨4, 0, a0_4⟩ : S60) [.int .i64 4, .int .u64 0, .string a0_4] from (k60_mkM _ _ _ (⟨4, 0, a0_4⟩ : S60) )) (Reps.none _ _))))))); intro v131 w11 ho12 hb hg_ hnew_; clear hg_ hnew_; (first | rw [← Ny130.out] at ho12 | (simp only [Int.reduceToNat] at ho12; rw [← Ny130.out] at ho12)); have n0_ := Aside0.mk (Kd.R_lower ho12 (below_size bw)); have n1_ := Aside0.mk (nb BK128.out hb); have n2_ := Aside0.mk (below_step bw hb); clear BK128; clear HB; have HO132 := n0_; have BK128 := n1_; have HB := n2_; clear n0_ n1_ n2_; clear hb ho12; obtain ⟨Ao13, co13, eo13⟩ := Kd.R_slice HO132.out; subst eo13) | ((with_reducible refine gate_callee (f := 25) rfl ?_); refine goesL_ (some 28) rfl rfl Tryd.func25 (by kernel_rfl) rfl #[.slice Ao13 y130.length co13] rfl am ?_; (with_reducible refine (codec_Encode.calls k _ _ y130 t133 t134 _ ?side1 ?side2 tbk A4.out).mono ?_); (case side1 => repeat (first | exact (Kd.R_reads' HO132.out).2.2 | (with_reducible refine Kd.C_alloc ?_ _) | (with_reducible refine Kd.C_drewN ?_ _) | (with_reducible refine Kd.C_drew ?_))); (case side2 => exact (Kd.R_reads' HO132.out).2.1); rintro e w14 ⟨rfl, hb⟩; refine ⟨_, rfl, ?_⟩; have n0_ := Aside0.mk (Kd.R_below (by (with_reducible repeat (first | apply Kd.R_alloc | apply Kd.R_drewN | apply Kd.R_drew)); exact HO132.out) hb); have n1_ := Aside0.mk (nb BK128.out hb); have n2_ := Aside0.mk (below_step bw hb); clear HO132; clear BK128; clear HB; have HO132 := n0_; have BK128 := n1_; have HB := n2_; clear n0_ n1_ n2_; (try clear hb); (try clear hb2); (try clear hk); (try clear hi)) | ((with_reducible refine gate_callee (f := 26) rfl ?_); refine goesL_ (some 35) rfl rfl Tryd.func26 (by kernel_rfl) rfl #[.string t133] rfl am ?_; (with_reducible refine (crc_Frame.calls t133 t135 t136 _ tbk A6.out).mono ?_); rintro e w15 ⟨rfl, hb⟩; refine ⟨_, rfl, ?_⟩; have n0_ := Aside0.mk (Kd.R_below (by (with_reducible repeat (first | apply Kd.R_alloc | apply Kd.R_drewN | apply Kd.R_drew)); exact HO132.out) hb); have n1_ := Aside0.mk (nb BK128.out hb); have n2_ := Aside0.mk (below_step bw hb); clear HO132; clear BK128; clear HB; have HO132 := n0_; have BK128 := n1_; have HB := n2_; clear n0_ n1_ n2_; (try clear hb); (try clear hb2); (try clear hk); (try clear hi)))
   go_ret2
   exact ⟨er, bw⟩
  ·rw [if_neg c5] at H
   have c5b0 : (t134 == 0) = false := beq_eq_false_iff_ne.mpr c5
   have c5b1 : (t134 != 0) = true := bne_iff_ne.mpr c5
   simp only [Option.some.injEq, Prod.mk.injEq] at H
   obtain ⟨rfl, rfl⟩ := H
   go_enter Tryd.func10, Tryd.ntmps10
   go_wp2_with (first | ((with_reducible refine gate_dst (N := 1) rfl ?_); refine box_event ?hg (N := 1) ?hd (cs := #[.int .i64 a0_0, .string a0_1, .int .i64 a0_2, .string a0_3, .string a0_4]) (t := 23) ?hr ?_; (case hd => rfl); (case hg => rfl); (case hr => first | (go_simp; done) | (go_simp; rfl)); intro gb128 hg w16 hbox hb; have n0_ := Aside0.mk (below_step bw hb); have n1_ := Aside0.mk (hbox); have n2_ := Aside0.mk ((g1 hg bw : w.heap.size ≤ gb128)); have n3_ := Aside0.mk ((g1 hg bw : w.heap.size ≤ gb128)); clear HB; have HB := n0_; have BK128 := n1_; have GW128 := n2_; have GE128 := n3_; clear n0_ n1_ n2_ n3_; clear hb hbox hg; have hcz17_0 := bc5_0 BK128.out; have hcz17_1 := bc5_1 BK128.out; have hcz17_2 := bc5_2 BK128.out; have hcz17_3 := bc5_3 BK128.out; have hcz17_4 := bc5_4 BK128.out; have hfz17_0 := blk_frozen BK128.out 0; have hfz17_1 := blk_frozen BK128.out 1; have hfz17_2 := blk_frozen BK128.out 2; have hfz17_3 := blk_frozen BK128.out 3; have hfz17_4 := blk_frozen BK128.out 4) | ((with_reducible refine gate_callee (f := 12) rfl ?_); refine goesL_ (some 7) rfl rfl Tryd.func12 (by kernel_rfl) rfl #[.agg #[.int .i64 a0_0, .string a0_1, .int .i64 a0_2, .string a0_3, .string a0_4]] rfl am ?_; (with_reducible refine (segment_Right.calls a0_0 a0_1 a0_2 a0_3 a0_4 true _ A2.out).mono ?_); rintro e w18 ⟨rfl, hb⟩; refine ⟨_, rfl, ?_⟩; have n0_ := Aside0.mk (nb BK128.out hb); have n1_ := Aside0.mk (below_step bw hb); clear BK128; clear HB; have BK128 := n0_; have HB := n1_; clear n0_ n1_; (try clear hb); (try clear hb2); (try clear hk); (try clear hi); have hcz19_0 := bc5_0 BK128.out; have hcz19_1 := bc5_1 BK128.out; have hcz19_2 := bc5_2 BK128.out; have hcz19_3 := bc5_3 BK128.out; have hcz19_4 := bc5_4 BK128.out; have hfz19_0 := blk_frozen BK128.out 0; have hfz19_1 := blk_frozen BK128.out 1; have hfz19_2 := blk_frozen BK128.out 2; have hfz19_3 := blk_frozen BK128.out 3; have hfz19_4 := blk_frozen BK128.out 4) | ((with_reducible refine gate_dst (N := 27) rfl ?_); refine Kd.R_lit k60 _ 60 ?hg (N := 27) ?hd (xs := ([(⟨3, IntKind.u64.wrap (a0_0), (⟨#[]⟩ : ByteArray)⟩ : S60), (⟨4, 0, a0_1⟩ : S60), (⟨3, IntKind.u64.wrap (a0_2), (⟨#[]⟩ : ByteArray)⟩ : S60), (⟨4, 0, a0_3⟩ : S60), (⟨4, 0, a0_4⟩ : S60)] : List (S60))) (inner := [.int .i64 3, .int .u64 (IntKind.u64.wrap (a0_0)), .string (⟨#[]⟩ : ByteArray), .int .i64 4, .int .u64 0, .string a0_1, .int .i64 3, .int .u64 (IntKind.u64.wrap (a0_2)), .string (⟨#[]⟩ : ByteArray), .int .i64 4, .int .u64 0, .string a0_3, .int .i64 4, .int .u64 0, .string a0_4]) (ok := fun _ => True) (okp := fun _ => True) ?hr ?hp (fun _ hk => hk) trivial (Below.refl _ _) (Nat.le_refl _) (by simp) ?_; (case hd => rfl); (case hg => rfl); (case hr => first | (go_simp; done) | (go_simp; rfl)); (case hp => exact (Reps.c3 (show Kd.M k60 _ _ _ (⟨3, IntKind.u64.wrap (a0_0), (⟨#[]⟩ : ByteArray)⟩ : S60) [.int .i64 3, .int .u64 (IntKind.u64.wrap (a0_0)), .string (⟨#[]⟩ : ByteArray)] from (k60_mkM _ _ _ (⟨3, IntKind.u64.wrap (a0_0), (⟨#[]⟩ : ByteArray)⟩ : S60) )) (Reps.c3 (show Kd.M k60 _ _ _ (⟨4, 0, a0_1⟩ : S60) [.int .i64 4, .int .u64 0, .string a0_1] from (k60_mkM _ _ _ (⟨4, 0, a0_1⟩ : S60) )) (Reps.c3 (show Kd.M k60 _ _ _ (⟨3, IntKind.u64.wrap (a0_2), (⟨#[]⟩ : ByteArray)⟩ : S60) [.int .i64 3, .int .u64 (IntKind.u64.wrap (a0_2)), .string (⟨#[]⟩ : ByteArray)] from (k60_mkM _ _ _ (⟨3, IntKind.u64.wrap (a0_2), (⟨#[]⟩ : ByteArray)⟩ : S60) )) (Reps.c3 (show Kd.M k60 _ _ _ (⟨4, 0, a0_3⟩ : S60) [.int .i64 4, .int .u64 0, .string a0_3] from (k60_mkM _ _ _ (⟨4, 0, a0_3⟩ : S60) )) (Reps.c3 (show Kd.M k60 _ _ _ (⟨4, 0, a0_4⟩ : S60) [.int .i64 4, .int .u64 0, .string a0_4] from (k60_mkM _ _ _ (⟨4, 0, a0_4⟩ : S60) )) (Reps.none _ _))))))); intro v131 w20 ho21 hb hg_ hnew_; clear hg_ hnew_; (first | rw [← Ny130.out] at ho21 | (simp only [Int.reduceToNat] at ho21; rw [← Ny130.out] at ho21)); have n0_ := Aside0.mk (Kd.R_lower ho21 (below_size bw)); have n1_ := Aside0.mk (nb BK128.out hb); have n2_ := Aside0.mk (below_step bw hb); clear BK128; clear HB; have HO132 := n0_; have BK128 := n1_; have HB := n2_; clear n0_ n1_ n2_; clear hb ho21; obtain ⟨Ao22, co22, eo22⟩ := Kd.R_slice HO132.out; subst eo22) | ((with_reducible refine gate_callee (f := 25) rfl ?_); refine goesL_ (some 28) rfl rfl Tryd.func25 (by kernel_rfl) rfl #[.slice Ao22 y130.length co22] rfl am ?_; (with_reducible refine (codec_Encode.calls k _ _ y130 t133 t134 _ ?side1 ?side2 tbk A4.out).mono ?_); (case side1 => repeat (first | exact (Kd.R_reads' HO132.out).2.2 | (with_reducible refine Kd.C_alloc ?_ _) | (with_reducible refine Kd.C_drewN ?_ _) | (with_reducible refine Kd.C_drew ?_))); (case side2 => exact (Kd.R_reads' HO132.out).2.1); rintro e w23 ⟨rfl, hb⟩; refine ⟨_, rfl, ?_⟩; have n0_ := Aside0.mk (Kd.R_below (by (with_reducible repeat (first | apply Kd.R_alloc | apply Kd.R_drewN | apply Kd.R_drew)); exact HO132.out) hb); have n1_ := Aside0.mk (nb BK128.out hb); have n2_ := Aside0.mk (below_step bw hb); clear HO132; clear BK128; clear HB; have HO132 := n0_; have BK128 := n1_; have HB := n2_; clear n0_ n1_ n2_; (try clear hb); (try clear hb2); (try clear hk); (try clear hi)))
   go_ret2
   exact ⟨er, bw⟩
 ·replace c3 := Bool.eq_false_iff.mpr c3
  subst c3
  have H1 : (some ((⟨#[]⟩ : ByteArray), 1)) = some (r1, r2) := by rw [if_neg (show ¬ (false = true) by decide)] at H; exact H
  clear H
  have H := H1
  clear H1
  simp only [Option.some.injEq, Prod.mk.injEq] at H
  obtain ⟨rfl, rfl⟩ := H
  go_enter Tryd.func10, Tryd.ntmps10
  go_wp2_with (first | ((with_reducible refine gate_dst (N := 1) rfl ?_); refine box_event ?hg (N := 1) ?hd (cs := #[.int .i64 a0_0, .string a0_1, .int .i64 a0_2, .string a0_3, .string a0_4]) (t := 23) ?hr ?_; (case hd => rfl); (case hg => rfl); (case hr => first | (go_simp; done) | (go_simp; rfl)); intro gb128 hg w24 hbox hb; have n0_ := Aside0.mk (below_step bw hb); have n1_ := Aside0.mk (hbox); have n2_ := Aside0.mk ((g1 hg bw : w.heap.size ≤ gb128)); have n3_ := Aside0.mk ((g1 hg bw : w.heap.size ≤ gb128)); clear HB; have HB := n0_; have BK128 := n1_; have GW128 := n2_; have GE128 := n3_; clear n0_ n1_ n2_ n3_; clear hb hbox hg; have hcz25_0 := bc5_0 BK128.out; have hcz25_1 := bc5_1 BK128.out; have hcz25_2 := bc5_2 BK128.out; have hcz25_3 := bc5_3 BK128.out; have hcz25_4 := bc5_4 BK128.out; have hfz25_0 := blk_frozen BK128.out 0; have hfz25_1 := blk_frozen BK128.out 1; have hfz25_2 := blk_frozen BK128.out 2; have hfz25_3 := blk_frozen BK128.out 3; have hfz25_4 := blk_frozen BK128.out 4) | ((with_reducible refine gate_callee (f := 12) rfl ?_); refine goesL_ (some 7) rfl rfl Tryd.func12 (by kernel_rfl) rfl #[.agg #[.int .i64 a0_0, .string a0_1, .int .i64 a0_2, .string a0_3, .string a0_4]] rfl am ?_; (with_reducible refine (segment_Right.calls a0_0 a0_1 a0_2 a0_3 a0_4 false _ A2.out).mono ?_); rintro e w26 ⟨rfl, hb⟩; refine ⟨_, rfl, ?_⟩; have n0_ := Aside0.mk (nb BK128.out hb); have n1_ := Aside0.mk (below_step bw hb); clear BK128; clear HB; have BK128 := n0_; have HB := n1_; clear n0_ n1_; (try clear hb); (try clear hb2); (try clear hk); (try clear hi)))
  go_ret2
  exact ⟨er, bw⟩

/-! ### crc_number: function 49 -/
def crc_number.f (a0 : ByteArray) : Option (Int) := if 0 < (a0.size : Int) then (if 1 < (a0.size : Int) then (if 2 < (a0.size : Int) then (if 3 < (a0.size : Int) then (some (Go.bits .or .u32 (Go.bits .or .u32 (Go.bits .or .u32 ((((bt a0 0) % 4294967296) * 16777216) % 4294967296) ((((bt a0 1) % 4294967296) * 65536) % 4294967296)) ((((bt a0 2) % 4294967296) * 256) % 4294967296)) ((bt a0 3) % 4294967296))) else (none)) else (none)) else (none)) else (none)
set_option maxHeartbeats 8000000 in
set_option maxRecDepth 100000 in
theorem crc_number.calls0 (a0 : ByteArray) (r : Int) (w : World) (h : crc_number.f a0 = some r) :
  Calls Tryd.prog 49 #[.string a0] w fun e w' => e = .returned (.int .u32 r) ∧ Drawn0 w w' := by
 have H : (if 0 < (a0.size : Int) then (if 1 < (a0.size : Int) then (if 2 < (a0.size : Int) then (if 3 < (a0.size : Int) then (some (Go.bits .or .u32 (Go.bits .or .u32 (Go.bits .or .u32 ((((bt a0 0) % 4294967296) * 16777216) % 4294967296) ((((bt a0 1) % 4294967296) * 65536) % 4294967296)) ((((bt a0 2) % 4294967296) * 256) % 4294967296)) ((bt a0 3) % 4294967296))) else (none)) else (none)) else (none)) else (none)) = some r := h
 clear h
 by_cases c2 : 0 < (a0.size : Int)
 ·rw [if_pos c2] at H
  have c2b0 : decide (0 < (a0.size : Int)) = true := decide_eq_true c2
  have c2b1 : decide (0 < a0.size) = true := decide_eq_true (by omega)
  clear c2
  by_cases c4 : 1 < (a0.size : Int)
  ·rw [if_pos c4] at H
   have c4b0 : decide (1 < (a0.size : Int)) = true := decide_eq_true c4
   have c4b1 : decide (1 < a0.size) = true := decide_eq_true (by omega)
   clear c4
   by_cases c6 : 2 < (a0.size : Int)
   ·rw [if_pos c6] at H
    have c6b0 : decide (2 < (a0.size : Int)) = true := decide_eq_true c6
    have c6b1 : decide (2 < a0.size) = true := decide_eq_true (by omega)
    clear c6
    by_cases c8 : 3 < (a0.size : Int)
    ·rw [if_pos c8] at H
     have c8b0 : decide (3 < (a0.size : Int)) = true := decide_eq_true c8
     have c8b1 : decide (3 < a0.size) = true := decide_eq_true (by omega)
     clear c8
     obtain rfl := Option.some.inj H
     have p3 : 0 ≤ (0 : Int) := (by omega)
     have q3 : 0 < a0.size := (by have : (0 : Int) < (a0.size : Int) := of_decide_eq_true (by first | (with_reducible assumption) | assumption); omega)
     have hx3 : ∀ h : 0 < a0.size, ((a0[0]'h).toNat : Int) = bt a0 0 := bt_at a0 0
     clear p3
     have qi3 : (0 < (a0.size : Int)) = True := eq_true (of_decide_eq_true (by first | (with_reducible assumption) | assumption))
     replace q3 := eq_true q3
     have p5 : 0 ≤ (1 : Int) := (by omega)
     have q5 : 1 < a0.size := (by have : (1 : Int) < (a0.size : Int) := of_decide_eq_true (by first | (with_reducible assumption) | assumption); omega)
     have hx5 : ∀ h : 1 < a0.size, ((a0[1]'h).toNat : Int) = bt a0 1 := bt_at a0 1
     clear p5
     have qi5 : (1 < (a0.size : Int)) = True := eq_true (of_decide_eq_true (by first | (with_reducible assumption) | assumption))
     replace q5 := eq_true q5
     have p7 : 0 ≤ (2 : Int) := (by omega)
     have q7 : 2 < a0.size := (by have : (2 : Int) < (a0.size : Int) := of_decide_eq_true (by first | (with_reducible assumption) | assumption); omega)
     have hx7 : ∀ h : 2 < a0.size, ((a0[2]'h).toNat : Int) = bt a0 2 := bt_at a0 2
     clear p7
     have qi7 : (2 < (a0.size : Int)) = True := eq_true (of_decide_eq_true (by first | (with_reducible assumption) | assumption))
     replace q7 := eq_true q7
     have p9 : 0 ≤ (3 : Int) := (by omega)
     have q9 : 3 < a0.size := (by have : (3 : Int) < (a0.size : Int) := of_decide_eq_true (by first | (with_reducible assumption) | assumption); omega)
     have hx9 : ∀ h : 3 < a0.size, ((a0[3]'h).toNat : Int) = bt a0 3 := bt_at a0 3
     clear p9
     have qi9 : (3 < (a0.size : Int)) = True := eq_true (of_decide_eq_true (by first | (with_reducible assumption) | assumption))
     replace q9 := eq_true q9
     go_enter Tryd.func49, Tryd.ntmps49
     go_wp2
     repeat (go_quiet (fail); try go_wp2)
     go_ret
     exact ⟨by first | rfl | (simp; done) | (simp [*]; done), by repeat (first | exact Drawn0.refl _ | apply Drawn0.step)⟩
    ·rw [if_neg c8] at H
     exact absurd H (by simp)
   ·rw [if_neg c6] at H
    exact absurd H (by simp)
  ·rw [if_neg c4] at H
   exact absurd H (by simp)
 ·rw [if_neg c2] at H
  exact absurd H (by simp)
theorem crc_number.calls (a0 : ByteArray) (r : Int) (w : World) (h : crc_number.f a0 = some r) :
  Calls Tryd.prog 49 #[.string a0] w fun e w' => e = .returned (.int .u32 r) ∧ Below w.heap.size w w' :=
 (crc_number.calls0 a0 r w h).mono fun e w' hh => ⟨hh.1, hh.2.below⟩

/-! ### crc_Take: function 42 -/
def crc_Take.f (a0 : ByteArray) : Option (ByteArray × Int × Int) := if (a0.size : Int) < 4 then (some ((⟨#[]⟩ : ByteArray), 0, 2)) else ((crc_number.f a0).bind fun t137 => (if t137 > 400000 then (some ((⟨#[]⟩ : ByteArray), 0, 3)) else (if (IntKind.u64.wrap ((a0.size : Int))) < (IntKind.u64.wrap (8 + (IntKind.u64.wrap (t137)))) then (some ((⟨#[]⟩ : ByteArray), 0, 2)) else (if 8 ≤ ((8 + t137) % 4294967296) then (if ((8 + t137) % 4294967296) ≤ (a0.size : Int) then (if 0 ≤ 4 then (if 4 ≤ (a0.size : Int) then ((crc_Sum.f (a0.extract 0 4)).bind fun t138 => ((crc_More.f t138 (a0.extract 8 (((8 + t137) % 4294967296) : Int).toNat)).bind fun t139 => ((crc_number.f (a0.extract 4 a0.size)).bind fun t140 => (if t139 = t140 then (some (a0.extract 8 (((8 + t137) % 4294967296) : Int).toNat, wrap64 (8 + (wrap64 (t137))), 0)) else (some ((⟨#[]⟩ : ByteArray), 0, 4)))))) else (none)) else (none)) else (none)) else (none)))))
def crc_Take.T9 : Bool × List (List Nat × List Nat) := (true, [([], []), ([0], [0]), ([1], [1]), ([], []), ([2, 3, 2], [2, 3]), ([], []), ([5], [5]), ([6, 4], [6]), ([4, 7], [4, 7])])
def crc_Take.B9 : List Nat := [0, 1, 3, 0, 15, 0, 32, 127, 255]
theorem crc_Take.tab9 : rtab .any (opsOf Tryd.f42 9) = crc_Take.T9 := by kernel_rfl
theorem crc_Take.bits9 : waitsOk crc_Take.T9.2 crc_Take.B9 = true := by kernel_rfl
set_option maxHeartbeats 8000000 in
set_option maxRecDepth 100000 in
theorem crc_Take.calls (a0 : ByteArray) (r1 : ByteArray) (r2 : Int) (r3 : Int) (w : World) (HT_ : TabOk w) (h : crc_Take.f a0 = some (r1, r2, r3)) :
  Calls Tryd.prog 42 #[.string a0] w fun e w' => e = .returned (.tuple #[.string r1, .int .i64 r2, .int .i64 r3]) ∧ Below w.heap.size w w' := by
 have HT := Aside0.mk HT_
 clear HT_
 have HB := Aside0.mk (Below.refl w.heap.size w)
 have H : (if (a0.size : Int) < 4 then (some ((⟨#[]⟩ : ByteArray), 0, 2)) else ((crc_number.f a0).bind fun t137 => (if t137 > 400000 then (some ((⟨#[]⟩ : ByteArray), 0, 3)) else (if (IntKind.u64.wrap ((a0.size : Int))) < (IntKind.u64.wrap (8 + (IntKind.u64.wrap (t137)))) then (some ((⟨#[]⟩ : ByteArray), 0, 2)) else (if 8 ≤ ((8 + t137) % 4294967296) then (if ((8 + t137) % 4294967296) ≤ (a0.size : Int) then (if 0 ≤ 4 then (if 4 ≤ (a0.size : Int) then ((crc_Sum.f (a0.extract 0 4)).bind fun t138 => ((crc_More.f t138 (a0.extract 8 (((8 + t137) % 4294967296) : Int).toNat)).bind fun t139 => ((crc_number.f (a0.extract 4 a0.size)).bind fun t140 => (if t139 = t140 then (some (a0.extract 8 (((8 + t137) % 4294967296) : Int).toNat, wrap64 (8 + (wrap64 (t137))), 0)) else (some ((⟨#[]⟩ : ByteArray), 0, 4)))))) else (none)) else (none)) else (none)) else (none)))))) = some (r1, r2, r3) := h
 clear h
 by_cases c2 : (a0.size : Int) < 4
 ·rw [if_pos c2] at H
  have c2b0 : decide ((a0.size : Int) < 4) = true := decide_eq_true c2
  have c2b1 : decide (a0.size < 4) = true := decide_eq_true (by omega)
  clear c2
  simp only [Option.some.injEq, Prod.mk.injEq] at H
  obtain ⟨rfl, rfl, rfl⟩ := H
  go_enter Tryd.func42, Tryd.ntmps42
  go_wp2
  go_ret3
  exact ⟨er, bw⟩
 ·rw [if_neg c2] at H
  have c2b0 : decide ((a0.size : Int) < 4) = false := decide_eq_false c2
  have c2b1 : decide (a0.size < 4) = false := decide_eq_false (by omega)
  clear c2
  replace H := Option.bind_eq_some_iff.mp H
  obtain ⟨t137, A30, H⟩ := H
  replace H : (if t137 > 400000 then (some ((⟨#[]⟩ : ByteArray), 0, 3)) else (if (IntKind.u64.wrap ((a0.size : Int))) < (IntKind.u64.wrap (8 + (IntKind.u64.wrap (t137)))) then (some ((⟨#[]⟩ : ByteArray), 0, 2)) else (if 8 ≤ ((8 + t137) % 4294967296) then (if ((8 + t137) % 4294967296) ≤ (a0.size : Int) then (if 0 ≤ 4 then (if 4 ≤ (a0.size : Int) then ((crc_Sum.f (a0.extract 0 4)).bind fun t138 => ((crc_More.f t138 (a0.extract 8 (((8 + t137) % 4294967296) : Int).toNat)).bind fun t139 => ((crc_number.f (a0.extract 4 a0.size)).bind fun t140 => (if t139 = t140 then (some (a0.extract 8 (((8 + t137) % 4294967296) : Int).toNat, wrap64 (8 + (wrap64 (t137))), 0)) else (some ((⟨#[]⟩ : ByteArray), 0, 4)))))) else (none)) else (none)) else (none)) else (none)))) = some (r1, r2, r3) := H
  have A3 := Aside0.mk A30
  clear A30
  by_cases c4 : t137 > 400000
  ·rw [if_pos c4] at H
   have c4b0 : decide (400000 < t137) = true := decide_eq_true c4
   clear c4
   simp only [Option.some.injEq, Prod.mk.injEq] at H
   obtain ⟨rfl, rfl, rfl⟩ := H
   go_enter Tryd.func42, Tryd.ntmps42
   go_wp2_with (first | ((with_reducible refine gate_callee (f := 49) rfl ?_); refine goesL_ (some 10) rfl rfl Tryd.func49 (by kernel_rfl) rfl #[.string a0] rfl am ?_; (with_reducible refine (crc_number.calls a0 t137 _ A3.out).mono ?_); rintro e w5 ⟨rfl, hb⟩; refine ⟨_, rfl, ?_⟩; have n0_ := Aside0.mk (below_step bw hb); clear HB; have HB := n0_; clear n0_; (try clear hb); (try clear hb2); (try clear hk); (try clear hi)))
   go_ret3
   exact ⟨er, bw⟩
  ·rw [if_neg c4] at H
   have c4b0 : decide (400000 < t137) = false := decide_eq_false c4
   clear c4
   by_cases c6 : (IntKind.u64.wrap ((a0.size : Int))) < (IntKind.u64.wrap (8 + (IntKind.u64.wrap (t137))))
   ·rw [if_pos c6] at H
    have c6b0 : decide ((IntKind.u64.wrap ((a0.size : Int))) < (IntKind.u64.wrap (8 + (IntKind.u64.wrap (t137))))) = true := decide_eq_true c6
    clear c6
    simp only [Option.some.injEq, Prod.mk.injEq] at H
    obtain ⟨rfl, rfl, rfl⟩ := H
    go_enter Tryd.func42, Tryd.ntmps42
    go_wp2_with (first | ((with_reducible refine gate_callee (f := 49) rfl ?_); refine goesL_ (some 10) rfl rfl Tryd.func49 (by kernel_rfl) rfl #[.string a0] rfl am ?_; (with_reducible refine (crc_number.calls a0 t137 _ A3.out).mono ?_); rintro e w7 ⟨rfl, hb⟩; refine ⟨_, rfl, ?_⟩; have n0_ := Aside0.mk (below_step bw hb); clear HB; have HB := n0_; clear n0_; (try clear hb); (try clear hb2); (try clear hk); (try clear hi)))
    go_ret3
    exact ⟨er, bw⟩
   ·rw [if_neg c6] at H
    have c6b0 : decide ((IntKind.u64.wrap ((a0.size : Int))) < (IntKind.u64.wrap (8 + (IntKind.u64.wrap (t137))))) = false := decide_eq_false c6
    clear c6
    by_cases c8 : 8 ≤ ((8 + t137) % 4294967296)
    ·rw [if_pos c8] at H
     have c8b0 := eq_true c8
     have c8b1 : decide (8 ≤ ((8 + t137) % 4294967296)) = true := decide_eq_true c8
     by_cases c9 : ((8 + t137) % 4294967296) ≤ (a0.size : Int)
     ·rw [if_pos c9] at H
      have c9b0 := eq_true c9
      have c9b1 : decide (((8 + t137) % 4294967296) ≤ (a0.size : Int)) = true := decide_eq_true c9
      by_cases c10 : 0 ≤ 4
      ·rw [if_pos c10] at H
       have c10b0 := eq_true c10
       have c10b1 : decide (0 ≤ 4) = true := decide_eq_true c10
       clear c10
       by_cases c11 : 4 ≤ (a0.size : Int)
       ·rw [if_pos c11] at H
        have c11b0 := eq_true c11
        have c11b1 : decide (4 ≤ (a0.size : Int)) = true := decide_eq_true c11
        clear c11
        replace H := Option.bind_eq_some_iff.mp H
        obtain ⟨t138, A120, H⟩ := H
        replace H : ((crc_More.f t138 (a0.extract 8 (((8 + t137) % 4294967296) : Int).toNat)).bind fun t139 => ((crc_number.f (a0.extract 4 a0.size)).bind fun t140 => (if t139 = t140 then (some (a0.extract 8 (((8 + t137) % 4294967296) : Int).toNat, wrap64 (8 + (wrap64 (t137))), 0)) else (some ((⟨#[]⟩ : ByteArray), 0, 4))))) = some (r1, r2, r3) := H
        have A12 := Aside0.mk A120
        clear A120
        replace H := Option.bind_eq_some_iff.mp H
        obtain ⟨t139, A130, H⟩ := H
        replace H : ((crc_number.f (a0.extract 4 a0.size)).bind fun t140 => (if t139 = t140 then (some (a0.extract 8 (((8 + t137) % 4294967296) : Int).toNat, wrap64 (8 + (wrap64 (t137))), 0)) else (some ((⟨#[]⟩ : ByteArray), 0, 4)))) = some (r1, r2, r3) := H
        have A13 := Aside0.mk A130
        clear A130
        have c14b0 := eq_true (of_decide_eq_true (by first | (with_reducible assumption) | assumption) : 4 ≤ (a0.size : Int))
        replace H := Option.bind_eq_some_iff.mp H
        obtain ⟨t140, A150, H⟩ := H
        replace H : (if t139 = t140 then (some (a0.extract 8 (((8 + t137) % 4294967296) : Int).toNat, wrap64 (8 + (wrap64 (t137))), 0)) else (some ((⟨#[]⟩ : ByteArray), 0, 4))) = some (r1, r2, r3) := H
        have A15 := Aside0.mk A150
        clear A150
        by_cases c16 : t139 = t140
        ·rw [if_pos c16] at H
         have c16b0 : (t139 == t140) = true := beq_iff_eq.mpr c16
         have c16b1 : (t139 != t140) = false := bne_eq_false_iff_eq.mpr c16
         clear c16
         simp only [Option.some.injEq, Prod.mk.injEq] at H
         obtain ⟨rfl, rfl, rfl⟩ := H
         go_enter Tryd.func42, Tryd.ntmps42
         try go_wp2_with (first | ((with_reducible refine gate_callee (f := 49) rfl ?_); refine goesL_ (some 10) rfl rfl Tryd.func49 (by kernel_rfl) rfl #[.string a0] rfl am ?_; (with_reducible refine (crc_number.calls a0 t137 _ A3.out).mono ?_); rintro e w17 ⟨rfl, hb⟩; refine ⟨_, rfl, ?_⟩; have n0_ := Aside0.mk (below_step bw hb); clear HB; have HB := n0_; clear n0_; (try clear hb); (try clear hb2); (try clear hk); (try clear hi)))
         have n0_ := Aside0.mk (below_drew1 HB.out)
         clear HB
         have HB := n0_
         clear n0_
         refine start_ (n := 9) (S := fun w' => True) (ds := []) #[false, false, false, false, false, false, false, false, false] (by kernel_rfl) rfl rfl trivial (fun hHeld => ?_); refine with_tabW crc_Take.tab9 crc_Take.bits9 (fun HT_ HW_ => ?_)
         generalize w17.drew = w18 at HB hHeld ⊢
         refine pure_ (i := 0) (N := some 24) (v := ?_) (a' := ?_) #[true, false, false, false, false, false, false, false, false] rfl rfl (any_of HT_.out (by kernel_rfl)) (fun _ _ _ h => h) (Or.inl ⟨by rfl, ?_⟩) ?_ ?_
         rotate_left
         ·intro w'
          go_simp
          with_reducible rfl
         rotate_left
         ·simp only [Act.put, sl1, sl2, sl3, i64_w, i32_w]
          rfl
         refine pure_ (i := 1) (N := some 25) (v := ?_) (a' := ?_) #[true, true, false, false, false, false, false, false, false] rfl rfl (any_of HT_.out (by kernel_rfl)) (fun _ _ _ h => h) (Or.inl ⟨by rfl, ?_⟩) ?_ ?_
         rotate_left
         ·intro w'
          go_simp
          with_reducible rfl
         rotate_left
         ·simp only [Act.put, sl1, sl2, sl3, i64_w, i32_w]
          rfl
         refine pure_ (i := 3) (N := some 27) (v := ?_) (a' := ?_) #[true, true, false, true, false, false, false, false, false] rfl rfl (any_of HT_.out (by kernel_rfl)) (fun _ _ _ h => h) (Or.inl ⟨by rfl, ?_⟩) ?_ ?_
         rotate_left
         ·intro w'
          go_simp
          with_reducible rfl
         rotate_left
         ·simp only [Act.put, sl1, sl2, sl3, i64_w, i32_w]
          rfl
         refine pure_ (i := 5) (N := some 29) (v := ?_) (a' := ?_) #[true, true, false, true, false, true, false, false, false] rfl rfl (any_of HT_.out (by kernel_rfl)) (fun _ _ _ h => h) (Or.inl ⟨by rfl, ?_⟩) ?_ ?_
         rotate_left
         ·intro w'
          go_simp
          with_reducible rfl
         rotate_left
         ·simp only [Act.put, sl1, sl2, sl3, i64_w, i32_w]
          rfl
         refine pure_ (i := 6) (N := some 30) (v := ?_) (a' := ?_) #[true, true, false, true, false, true, true, false, false] rfl rfl (any_of HT_.out (by kernel_rfl)) (fun _ _ _ h => h) (Or.inl ⟨by rfl, ?_⟩) ?_ ?_
         rotate_left
         ·intro w'
          go_simp
          with_reducible rfl
         rotate_left
         ·simp only [Act.put, sl1, sl2, sl3, i64_w, i32_w]
          rfl
         refine one_ (i := 2) (N := some 26) #[true, true, true, true, false, true, true, false, false] rfl rfl (one_of HT_.out (by kernel_rfl)) (by decide) (fun K hK => ?_)
         refine goes_ Tryd.func36 (by kernel_rfl) rfl #[.string (a0.extract 0 4)] (by rfl) rfl rfl am ?_
         with_reducible refine (crc_Sum.calls (a0.extract 0 4) t138 _ tbk A12.out).mono ?_
         rintro e w19 ⟨rfl, hb⟩
         refine ⟨_, rfl, ?_⟩
         have n0_ := Aside0.mk (below_step bw hb)
         clear HB
         have HB := n0_
         clear n0_
         (try clear hb)
         (try clear hb2)
         (try clear hk)
         (try clear hi)
         refine hK.out _ _ trivial (fun hHeld => ?_)
         clear hK K
         refine norm_ (a' := ?_) ?_ ?_
         rotate_left
         ·show Act.put _ (some 26) _ = _
          simp only [Act.put, sl1, sl2, sl3, i64_w, i32_w]
          rfl
         refine one_ (i := 4) (N := some 28) #[true, true, true, true, true, true, true, false, false] rfl rfl (one_of HT_.out (by kernel_rfl)) (by decide) (fun K hK => ?_)
         refine goes_ Tryd.func35 (by kernel_rfl) rfl #[.int .u32 t138, .string (a0.extract 8 (((8 + t137) % 4294967296) : Int).toNat)] (by rfl) rfl rfl am ?_
         with_reducible refine (crc_More.calls t138 (a0.extract 8 (((8 + t137) % 4294967296) : Int).toNat) t139 _ tbk A13.out).mono ?_
         rintro e w20 ⟨rfl, hb⟩
         refine ⟨_, rfl, ?_⟩
         have n0_ := Aside0.mk (below_step bw hb)
         clear HB
         have HB := n0_
         clear n0_
         (try clear hb)
         (try clear hb2)
         (try clear hk)
         (try clear hi)
         refine hK.out _ _ trivial (fun hHeld => ?_)
         clear hK K
         refine norm_ (a' := ?_) ?_ ?_
         rotate_left
         ·show Act.put _ (some 28) _ = _
          simp only [Act.put, sl1, sl2, sl3, i64_w, i32_w]
          rfl
         refine one_ (i := 7) (N := some 31) #[true, true, true, true, true, true, true, true, false] rfl rfl (one_of HT_.out (by kernel_rfl)) (by decide) (fun K hK => ?_)
         refine goes_ Tryd.func49 (by kernel_rfl) rfl #[.string (a0.extract 4 a0.size)] (by rfl) rfl rfl am ?_
         with_reducible refine (crc_number.calls (a0.extract 4 a0.size) t140 _ A15.out).mono ?_
         rintro e w21 ⟨rfl, hb⟩
         refine ⟨_, rfl, ?_⟩
         have n0_ := Aside0.mk (below_step bw hb)
         clear HB
         have HB := n0_
         clear n0_
         (try clear hb)
         (try clear hb2)
         (try clear hk)
         (try clear hi)
         refine hK.out _ _ trivial (fun hHeld => ?_)
         clear hK K
         refine norm_ (a' := ?_) ?_ ?_
         rotate_left
         ·show Act.put _ (some 31) _ = _
          simp only [Act.put, sl1, sl2, sl3, i64_w, i32_w]
          rfl
         refine pure_ (i := 8) (N := some 32) (v := ?_) (a' := ?_) #[true, true, true, true, true, true, true, true, true] rfl rfl (any_of HT_.out (by kernel_rfl)) (fun _ _ _ h => h) (Or.inl ⟨by rfl, ?_⟩) ?_ ?_
         rotate_left
         ·intro w'
          go_simp
          with_reducible rfl
         rotate_left
         ·simp only [Act.put, sl1, sl2, sl3, i64_w, i32_w]
          rfl
         refine done_ (done_of HT_.out (by kernel_rfl)) ?_
         try go_wp2
         go_ret3
         exact ⟨er, bw⟩
        ·rw [if_neg c16] at H
         have c16b0 : (t139 == t140) = false := beq_eq_false_iff_ne.mpr c16
         have c16b1 : (t139 != t140) = true := bne_iff_ne.mpr c16
         simp only [Option.some.injEq, Prod.mk.injEq] at H
         obtain ⟨rfl, rfl, rfl⟩ := H
         go_enter Tryd.func42, Tryd.ntmps42
         try go_wp2_with (first | ((with_reducible refine gate_callee (f := 49) rfl ?_); refine goesL_ (some 10) rfl rfl Tryd.func49 (by kernel_rfl) rfl #[.string a0] rfl am ?_; (with_reducible refine (crc_number.calls a0 t137 _ A3.out).mono ?_); rintro e w22 ⟨rfl, hb⟩; refine ⟨_, rfl, ?_⟩; have n0_ := Aside0.mk (below_step bw hb); clear HB; have HB := n0_; clear n0_; (try clear hb); (try clear hb2); (try clear hk); (try clear hi)))
         have n0_ := Aside0.mk (below_drew1 HB.out)
         clear HB
         have HB := n0_
         clear n0_
         refine start_ (n := 9) (S := fun w' => True) (ds := []) #[false, false, false, false, false, false, false, false, false] (by kernel_rfl) rfl rfl trivial (fun hHeld => ?_); refine with_tabW crc_Take.tab9 crc_Take.bits9 (fun HT_ HW_ => ?_)
         generalize w22.drew = w23 at HB hHeld ⊢
         refine pure_ (i := 0) (N := some 24) (v := ?_) (a' := ?_) #[true, false, false, false, false, false, false, false, false] rfl rfl (any_of HT_.out (by kernel_rfl)) (fun _ _ _ h => h) (Or.inl ⟨by rfl, ?_⟩) ?_ ?_
         rotate_left
         ·intro w'
          go_simp
          with_reducible rfl
         rotate_left
         ·simp only [Act.put, sl1, sl2, sl3, i64_w, i32_w]
          rfl
         refine pure_ (i := 1) (N := some 25) (v := ?_) (a' := ?_) #[true, true, false, false, false, false, false, false, false] rfl rfl (any_of HT_.out (by kernel_rfl)) (fun _ _ _ h => h) (Or.inl ⟨by rfl, ?_⟩) ?_ ?_
         rotate_left
         ·intro w'
          go_simp
          with_reducible rfl
         rotate_left
         ·simp only [Act.put, sl1, sl2, sl3, i64_w, i32_w]
          rfl
         refine pure_ (i := 3) (N := some 27) (v := ?_) (a' := ?_) #[true, true, false, true, false, false, false, false, false] rfl rfl (any_of HT_.out (by kernel_rfl)) (fun _ _ _ h => h) (Or.inl ⟨by rfl, ?_⟩) ?_ ?_
         rotate_left
         ·intro w'
          go_simp
          with_reducible rfl
         rotate_left
         ·simp only [Act.put, sl1, sl2, sl3, i64_w, i32_w]
          rfl
         refine pure_ (i := 5) (N := some 29) (v := ?_) (a' := ?_) #[true, true, false, true, false, true, false, false, false] rfl rfl (any_of HT_.out (by kernel_rfl)) (fun _ _ _ h => h) (Or.inl ⟨by rfl, ?_⟩) ?_ ?_
         rotate_left
         ·intro w'
          go_simp
          with_reducible rfl
         rotate_left
         ·simp only [Act.put, sl1, sl2, sl3, i64_w, i32_w]
          rfl
         refine pure_ (i := 6) (N := some 30) (v := ?_) (a' := ?_) #[true, true, false, true, false, true, true, false, false] rfl rfl (any_of HT_.out (by kernel_rfl)) (fun _ _ _ h => h) (Or.inl ⟨by rfl, ?_⟩) ?_ ?_
         rotate_left
         ·intro w'
          go_simp
          with_reducible rfl
         rotate_left
         ·simp only [Act.put, sl1, sl2, sl3, i64_w, i32_w]
          rfl
         refine one_ (i := 2) (N := some 26) #[true, true, true, true, false, true, true, false, false] rfl rfl (one_of HT_.out (by kernel_rfl)) (by decide) (fun K hK => ?_)
         refine goes_ Tryd.func36 (by kernel_rfl) rfl #[.string (a0.extract 0 4)] (by rfl) rfl rfl am ?_
         with_reducible refine (crc_Sum.calls (a0.extract 0 4) t138 _ tbk A12.out).mono ?_
         rintro e w24 ⟨rfl, hb⟩
         refine ⟨_, rfl, ?_⟩
         have n0_ := Aside0.mk (below_step bw hb)
         clear HB
         have HB := n0_
         clear n0_
         (try clear hb)
         (try clear hb2)
         (try clear hk)
         (try clear hi)
         refine hK.out _ _ trivial (fun hHeld => ?_)
         clear hK K
         refine norm_ (a' := ?_) ?_ ?_
         rotate_left
         ·show Act.put _ (some 26) _ = _
          simp only [Act.put, sl1, sl2, sl3, i64_w, i32_w]
          rfl
         refine one_ (i := 4) (N := some 28) #[true, true, true, true, true, true, true, false, false] rfl rfl (one_of HT_.out (by kernel_rfl)) (by decide) (fun K hK => ?_)
         refine goes_ Tryd.func35 (by kernel_rfl) rfl #[.int .u32 t138, .string (a0.extract 8 (((8 + t137) % 4294967296) : Int).toNat)] (by rfl) rfl rfl am ?_
         with_reducible refine (crc_More.calls t138 (a0.extract 8 (((8 + t137) % 4294967296) : Int).toNat) t139 _ tbk A13.out).mono ?_
         rintro e w25 ⟨rfl, hb⟩
         refine ⟨_, rfl, ?_⟩
         have n0_ := Aside0.mk (below_step bw hb)
         clear HB
         have HB := n0_
         clear n0_
         (try clear hb)
         (try clear hb2)
         (try clear hk)
         (try clear hi)
         refine hK.out _ _ trivial (fun hHeld => ?_)
         clear hK K
         refine norm_ (a' := ?_) ?_ ?_
         rotate_left
         ·show Act.put _ (some 28) _ = _
          simp only [Act.put, sl1, sl2, sl3, i64_w, i32_w]
          rfl
         refine one_ (i := 7) (N := some 31) #[true, true, true, true, true, true, true, true, false] rfl rfl (one_of HT_.out (by kernel_rfl)) (by decide) (fun K hK => ?_)
         refine goes_ Tryd.func49 (by kernel_rfl) rfl #[.string (a0.extract 4 a0.size)] (by rfl) rfl rfl am ?_
         with_reducible refine (crc_number.calls (a0.extract 4 a0.size) t140 _ A15.out).mono ?_
         rintro e w26 ⟨rfl, hb⟩
         refine ⟨_, rfl, ?_⟩
         have n0_ := Aside0.mk (below_step bw hb)
         clear HB
         have HB := n0_
         clear n0_
         (try clear hb)
         (try clear hb2)
         (try clear hk)
         (try clear hi)
         refine hK.out _ _ trivial (fun hHeld => ?_)
         clear hK K
         refine norm_ (a' := ?_) ?_ ?_
         rotate_left
         ·show Act.put _ (some 31) _ = _
          simp only [Act.put, sl1, sl2, sl3, i64_w, i32_w]
          rfl
         refine pure_ (i := 8) (N := some 32) (v := ?_) (a' := ?_) #[true, true, true, true, true, true, true, true, true] rfl rfl (any_of HT_.out (by kernel_rfl)) (fun _ _ _ h => h) (Or.inl ⟨by rfl, ?_⟩) ?_ ?_
         rotate_left
         ·intro w'
          go_simp
          with_reducible rfl
         rotate_left
         ·simp only [Act.put, sl1, sl2, sl3, i64_w, i32_w]
          rfl
         refine done_ (done_of HT_.out (by kernel_rfl)) ?_
         try go_wp2
         go_ret3
         exact ⟨er, bw⟩
       ·rw [if_neg c11] at H
        exact absurd H (by simp)
      ·rw [if_neg c10] at H
       exact absurd H (by simp)
     ·rw [if_neg c9] at H
      exact absurd H (by simp)
    ·rw [if_neg c8] at H
     exact absurd H (by simp)

-- NOT PRINTED: function 62 (bytealg_IndexByteString)

/-! ### stringslite_IndexByte: function 60 -/
def stringslite_IndexByte.f (a0 : ByteArray) (a1 : Int) : Option (Int) := some (Lib.indexByte a0.data.toList a1.toNat.toUInt8)
set_option maxHeartbeats 1000000 in
set_option maxRecDepth 100000 in
theorem stringslite_IndexByte.calls (a0 : ByteArray) (a1 : Int) (r : Int) (w : World) (h : stringslite_IndexByte.f a0 a1 = some r) :
  Calls Tryd.prog 60 #[.string a0, .int .u8 a1] w fun e w' => e = .returned (.int .i64 r) ∧ Drawn0 w w' := by
 obtain rfl := Option.some.inj h
 go_enter Tryd.func60, Tryd.ntmps60
 go_wp2
 rw [run_callFunc_extern Tryd.func62 (by kernel_rfl) (by kernel_rfl) (by kernel_rfl) (e := Extern.BytealgIndexByte.indexByte) (by kernel_rfl), Lib.run_indexByteString]
 simp only [Result.andThen]
 rw [Oper.upon_value]
 go_wp2
 go_ret
 exact ⟨rfl, Drawn0.refl _⟩

/-! ### strings_IndexByte: function 54 -/
def strings_IndexByte.f (a0 : ByteArray) (a1 : Int) : Option (Int) := (stringslite_IndexByte.f a0 a1).bind fun t141 => (some t141)
set_option maxHeartbeats 8000000 in
set_option maxRecDepth 100000 in
theorem strings_IndexByte.calls (a0 : ByteArray) (a1 : Int) (r : Int) (w : World) (h : strings_IndexByte.f a0 a1 = some r) :
  Calls Tryd.prog 54 #[.string a0, .int .u8 a1] w fun e w' => e = .returned (.int .i64 r) ∧ Drawn0 w w' := by
 have H : ((stringslite_IndexByte.f a0 a1).bind fun t141 => (some t141)) = some r := h
 clear h
 replace H := Option.bind_eq_some_iff.mp H
 obtain ⟨t141, A30, H⟩ := H
 replace H : (some t141) = some r := H
 have A3 := Aside0.mk A30
 clear A30
 obtain rfl := Option.some.inj H
 go_enter Tryd.func54, Tryd.ntmps54
 go_wp2_with (first | ((with_reducible refine gate_callee (f := 60) rfl ?_); refine goesL_ (some 7) rfl rfl Tryd.func60 (by kernel_rfl) rfl #[.string a0, .int .u8 a1] rfl am ?_; (with_reducible refine (stringslite_IndexByte.calls a0 a1 t141 _ A3.out).mono ?_); rintro e w' ⟨rfl, ⟨nd, rfl⟩⟩; refine ⟨_, rfl, ?_⟩))
 go_ret
 exact ⟨by first | rfl | (simp; done) | (simp [*]; done), by repeat (first | exact Drawn0.refl _ | apply Drawn0.step)⟩

-- NOT PRINTED: function 64 (bytealg_IndexString)

-- NOT PRINTED: function 65 (bytealg_Cutover)

-- NOT PRINTED: function 67 (bytealg_hashStr_string)

-- NOT PRINTED: function 66 (bytealg_IndexRabinKarp_string)

/-! ### stringslite_Index: function 63 -/
/-- At a text of one byte. -/
def oneByte (s : ByteArray) : Option UInt8 := match s.data.toList with | [c] => some c | _ => none
theorem oneByte_eq {s : ByteArray} {c : UInt8} (h : oneByte s = some c) : s = ⟨#[c]⟩ := by
 obtain ⟨⟨l⟩⟩ := s
 unfold oneByte at h
 match l, h with
 | [d], h => cases h; rfl
def stringslite_Index.f (a0 : ByteArray) (a1 : ByteArray) : Option (Int) := (oneByte a1).bind fun c => some (Lib.indexByte a0.data.toList c)
set_option maxHeartbeats 1000000 in
set_option maxRecDepth 100000 in
theorem stringslite_Index.calls (a0 : ByteArray) (a1 : ByteArray) (r : Int) (w : World) (h : stringslite_Index.f a0 a1 = some r) :
  Calls Tryd.prog 63 #[.string a0, .string a1] w fun e w' => e = .returned (.int .i64 r) ∧ Drawn0 w w' := by
 unfold stringslite_Index.f at h
 obtain ⟨c, hc, h⟩ := Option.bind_eq_some_iff.mp h
 obtain rfl := oneByte_eq hc
 obtain rfl := Option.some.inj h
 clear h hc
 go_enter Tryd.func63, Tryd.ntmps63
 go_wp2_with (go_at_call 60; refine (stringslite_IndexByte.calls _ _ _ _ rfl).mono ?_; rintro e w' ⟨rfl, ⟨n_, rfl⟩⟩)
 ·have h : ([c] == a0.toList) = true := by assumption
  go_ret
  refine ⟨?_, Drawn0.refl _⟩
  have e : a0.data.toList = [c] := by rw [← Lib.toList_data]; exact (beq_iff_eq.1 h).symm
  rw [e]
  simp [Lib.indexByte]
 ·go_ret
  exact ⟨rfl, ⟨_, rfl⟩⟩

/-! ### stringslite_Cut: function 61 -/
def stringslite_Cut.f (a0 : ByteArray) (a1 : ByteArray) : Option (ByteArray × ByteArray × Bool) := (stringslite_Index.f a0 a1).bind fun t142 => (if t142 ≥ 0 then (if 0 ≤ t142 then (if t142 ≤ (a0.size : Int) then (if 0 ≤ (wrap64 (t142 + (a1.size : Int))) then (if (wrap64 (t142 + (a1.size : Int))) ≤ (a0.size : Int) then (some (a0.extract 0 (t142 : Int).toNat, a0.extract ((wrap64 (t142 + (a1.size : Int))) : Int).toNat a0.size, true)) else (none)) else (none)) else (none)) else (none)) else (some (a0, (⟨#[]⟩ : ByteArray), false)))
set_option maxHeartbeats 8000000 in
set_option maxRecDepth 100000 in
theorem stringslite_Cut.calls (a0 : ByteArray) (a1 : ByteArray) (r1 : ByteArray) (r2 : ByteArray) (r3 : Bool) (w : World) (h : stringslite_Cut.f a0 a1 = some (r1, r2, r3)) :
  Calls Tryd.prog 61 #[.string a0, .string a1] w fun e w' => e = .returned (.tuple #[.string r1, .string r2, .bool r3]) ∧ Drawn0 w w' := by
 have H : ((stringslite_Index.f a0 a1).bind fun t142 => (if t142 ≥ 0 then (if 0 ≤ t142 then (if t142 ≤ (a0.size : Int) then (if 0 ≤ (wrap64 (t142 + (a1.size : Int))) then (if (wrap64 (t142 + (a1.size : Int))) ≤ (a0.size : Int) then (some (a0.extract 0 (t142 : Int).toNat, a0.extract ((wrap64 (t142 + (a1.size : Int))) : Int).toNat a0.size, true)) else (none)) else (none)) else (none)) else (none)) else (some (a0, (⟨#[]⟩ : ByteArray), false)))) = some (r1, r2, r3) := h
 clear h
 replace H := Option.bind_eq_some_iff.mp H
 obtain ⟨t142, A30, H⟩ := H
 replace H : (if t142 ≥ 0 then (if 0 ≤ t142 then (if t142 ≤ (a0.size : Int) then (if 0 ≤ (wrap64 (t142 + (a1.size : Int))) then (if (wrap64 (t142 + (a1.size : Int))) ≤ (a0.size : Int) then (some (a0.extract 0 (t142 : Int).toNat, a0.extract ((wrap64 (t142 + (a1.size : Int))) : Int).toNat a0.size, true)) else (none)) else (none)) else (none)) else (none)) else (some (a0, (⟨#[]⟩ : ByteArray), false))) = some (r1, r2, r3) := H
 have A3 := Aside0.mk A30
 clear A30
 by_cases c4 : t142 ≥ 0
 ·rw [if_pos c4] at H
  have c4b0 : decide (0 ≤ t142) = true := decide_eq_true c4
  clear c4
  by_cases c5 : 0 ≤ t142
  ·rw [if_pos c5] at H
   have c5b0 := eq_true c5
   have c5b1 : decide (0 ≤ t142) = true := decide_eq_true c5
   clear c5
   by_cases c6 : t142 ≤ (a0.size : Int)
   ·rw [if_pos c6] at H
    have c6b0 := eq_true c6
    have c6b1 : decide (t142 ≤ (a0.size : Int)) = true := decide_eq_true c6
    clear c6
    obtain ⟨ji7, hji7⟩ : ∃ j_ : Int, (wrap64 (t142 + (a1.size : Int))) = j_ := ⟨_, rfl⟩
    replace H : (if 0 ≤ (ji7) then (if (ji7) ≤ (a0.size : Int) then (some (a0.extract 0 (t142 : Int).toNat, a0.extract ((ji7) : Int).toNat a0.size, true)) else (none)) else (none)) = some (r1, r2, r3) := by first | (rw [hji7] at H; exact H) | (simp only [hji7] at H ⊢; exact H)
    (try rw [hji7] at A3)
    have hji7w : (IntKind.i64.wrap (t142 + (a1.size : Int))) = ji7 := (i64_w _).trans hji7
    by_cases c8 : 0 ≤ (ji7)
    ·rw [if_pos c8] at H
     have c8b0 := eq_true c8
     have c8b1 : decide (0 ≤ (ji7)) = true := decide_eq_true c8
     clear c8
     by_cases c9 : (ji7) ≤ (a0.size : Int)
     ·rw [if_pos c9] at H
      have c9b0 := eq_true c9
      have c9b1 : decide ((ji7) ≤ (a0.size : Int)) = true := decide_eq_true c9
      clear c9
      simp only [Option.some.injEq, Prod.mk.injEq] at H
      obtain ⟨rfl, rfl, rfl⟩ := H
      go_enter Tryd.func61, Tryd.ntmps61
      go_wp2_with (first | (go_at_call 63; (with_reducible refine (stringslite_Index.calls a0 a1 t142 _ A3.out).mono ?_); rintro e w' ⟨rfl, ⟨nd, rfl⟩⟩; (try first | exact ⟨rfl, _, World.drewN_drewN _ _ _⟩ | exact ⟨rfl, _, Eq.trans (World.drewN_drewN _ _ _) (congrArg (World.drewN _) (Nat.add_assoc _ _ _))⟩)))
      repeat (go_quiet (first | (go_at_call 63; (with_reducible refine (stringslite_Index.calls a0 a1 t142 _ A3.out).mono ?_); rintro e w' ⟨rfl, ⟨nd, rfl⟩⟩; (try first | exact ⟨rfl, _, World.drewN_drewN _ _ _⟩ | exact ⟨rfl, _, Eq.trans (World.drewN_drewN _ _ _) (congrArg (World.drewN _) (Nat.add_assoc _ _ _))⟩))); try go_wp2_with (first | (go_at_call 63; (with_reducible refine (stringslite_Index.calls a0 a1 t142 _ A3.out).mono ?_); rintro e w' ⟨rfl, ⟨nd, rfl⟩⟩; (try first | exact ⟨rfl, _, World.drewN_drewN _ _ _⟩ | exact ⟨rfl, _, Eq.trans (World.drewN_drewN _ _ _) (congrArg (World.drewN _) (Nat.add_assoc _ _ _))⟩))))
      go_ret3
      exact ⟨by first | rfl | (simp; done) | (simp only [← hji7] <;> (first | rfl | simp)) | (simp [*]; done), by repeat (first | exact Drawn0.refl _ | apply Drawn0.step)⟩
     ·rw [if_neg c9] at H
      exact absurd H (by simp)
    ·rw [if_neg c8] at H
     exact absurd H (by simp)
   ·rw [if_neg c6] at H
    exact absurd H (by simp)
  ·rw [if_neg c5] at H
   exact absurd H (by simp)
 ·rw [if_neg c4] at H
  have c4b0 : decide (0 ≤ t142) = false := decide_eq_false c4
  clear c4
  simp only [Option.some.injEq, Prod.mk.injEq] at H
  obtain ⟨rfl, rfl, rfl⟩ := H
  go_enter Tryd.func61, Tryd.ntmps61
  go_wp2_with (first | (go_at_call 63; (with_reducible refine (stringslite_Index.calls a0 a1 t142 _ A3.out).mono ?_); rintro e w' ⟨rfl, ⟨nd, rfl⟩⟩; (try first | exact ⟨rfl, _, World.drewN_drewN _ _ _⟩ | exact ⟨rfl, _, Eq.trans (World.drewN_drewN _ _ _) (congrArg (World.drewN _) (Nat.add_assoc _ _ _))⟩)))
  go_ret3
  exact ⟨by first | rfl | (simp; done) | (simp [*]; done), by repeat (first | exact Drawn0.refl _ | apply Drawn0.step)⟩

/-! ### strings_Cut: function 59 -/
def strings_Cut.f (a0 : ByteArray) (a1 : ByteArray) : Option (ByteArray × ByteArray × Bool) := (stringslite_Cut.f a0 a1).bind fun bt143 => (some (bt143.1, bt143.2.1, bt143.2.2))
set_option maxHeartbeats 8000000 in
set_option maxRecDepth 100000 in
theorem strings_Cut.calls (a0 : ByteArray) (a1 : ByteArray) (r1 : ByteArray) (r2 : ByteArray) (r3 : Bool) (w : World) (h : strings_Cut.f a0 a1 = some (r1, r2, r3)) :
  Calls Tryd.prog 59 #[.string a0, .string a1] w fun e w' => e = .returned (.tuple #[.string r1, .string r2, .bool r3]) ∧ Drawn0 w w' := by
 have H : ((stringslite_Cut.f a0 a1).bind fun bt143 => (some (bt143.1, bt143.2.1, bt143.2.2))) = some (r1, r2, r3) := h
 clear h
 replace H := Option.bind_eq_some_iff.mp H
 obtain ⟨⟨t143, t144, t145⟩, A30, H⟩ := H
 replace H : (some (t143, t144, t145)) = some (r1, r2, r3) := H
 have A3 := Aside0.mk A30
 clear A30
 simp only [Option.some.injEq, Prod.mk.injEq] at H
 obtain ⟨rfl, rfl, rfl⟩ := H
 go_enter Tryd.func59, Tryd.ntmps59
 go_wp2_with (first | ((with_reducible refine gate_callee (f := 61) rfl ?_); refine goesL_ (some 9) rfl rfl Tryd.func61 (by kernel_rfl) rfl #[.string a0, .string a1] rfl am ?_; (with_reducible refine (stringslite_Cut.calls a0 a1 t143 t144 t145 _ A3.out).mono ?_); rintro e w' ⟨rfl, ⟨nd, rfl⟩⟩; refine ⟨_, rfl, ?_⟩))
 go_ret3
 exact ⟨by first | rfl | (simp; done) | (simp [*]; done), by repeat (first | exact Drawn0.refl _ | apply Drawn0.step)⟩

/-! ### codec_right: function 53 -/
/-- Is a byte one of the kinds' letters? -/
def letB (c : UInt8) : Bool := !decide (Lib.indexByte [98, 119, 108, 116] c < 0)
theorem below_convR (w : World) (e : TypeId) (s : ByteArray) : Below w.heap.size w (Lib.bytesWorld w e s) :=
 ⟨rfl, rfl, rfl, by rw [Lib.bytesWorld_size]; omega, fun i hi => Lib.bytesWorld_at_old w e s i hi⟩
theorem take_snocR (l : List UInt8) (k : Nat) (h : k < l.length) : l.take (k + 1) = l.take k ++ [l.getD k 0] := by
 rw [List.take_succ_eq_append_getElem h]
 simp [List.getD_eq_getElem?_getD, List.getElem?_eq_getElem h]
theorem toNat_toUInt8 (c : UInt8) : ((c.toNat : Nat) : Int).toNat.toUInt8 = c := by
 rw [show ((c.toNat : Nat) : Int).toNat = c.toNat from rfl]
 simp
def codec_right.f (a0 : ByteArray) : Option (Bool) := (strings_Cut.f a0 (⟨#[42]⟩ : ByteArray)).bind fun b =>
 if b.1.size + b.2.1.size ≤ 9223372036854775807 then some ((b.1 ++ b.2.1).data.toList.all letB && (!b.2.2 || (b.2.1.toList != ([] : List UInt8)))) else none
set_option maxHeartbeats 4000000 in
set_option maxRecDepth 100000 in
theorem codec_right.calls (a0 : ByteArray) (r : Bool) (w : World) (h : codec_right.f a0 = some r) :
  Calls Tryd.prog 53 #[.string a0] w fun e w' => e = .returned (.bool r) ∧ Below w.heap.size w w' := by
 unfold codec_right.f at h
 obtain ⟨⟨t1, t2, t3⟩, A20, h⟩ := Option.bind_eq_some_iff.mp h
 have A2 := Aside0.mk A20
 clear A20
 replace h : (if t1.size + t2.size ≤ 9223372036854775807 then some ((t1 ++ t2).data.toList.all letB && (!t3 || (t2.toList != ([] : List UInt8)))) else none) = some r := h
 by_cases c3 : t1.size + t2.size ≤ 9223372036854775807
 case neg => rw [if_neg c3] at h; exact absurd h (by simp)
 rw [if_pos c3] at h
 have HR := Aside0.mk (Option.some.inj h)
 clear h
 have c3b0 := eq_true c3
 have c3b1 : decide (t1.size + t2.size ≤ 9223372036854775807) = true := decide_eq_true c3
 have c3b2 : (9223372036854775807 < t1.size + t2.size) = False := eq_false (Nat.not_lt.2 c3)
 obtain ⟨n, hn⟩ : ∃ n : Nat, n = t1.size + t2.size := ⟨_, rfl⟩
 have HN := Aside0.mk hn
 have HSL : Aside0 ((t1 ++ t2).data.toList.length = n) := ⟨by rw [Array.length_toList, hn]; exact ByteArray.size_append⟩
 have hnb : n ≤ 9223372036854775807 := by omega
 clear hn c3
 go_enter Tryd.func53, Tryd.ntmps53
 go_wp2_with (first | ((with_reducible refine gate_callee (f := 59) rfl ?_); refine goesL_ (some 10) rfl rfl Tryd.func59 (by kernel_rfl) rfl #[.string a0, .string (⟨#[42]⟩ : ByteArray)] rfl am ?_; (with_reducible refine (strings_Cut.calls a0 (⟨#[42]⟩ : ByteArray) t1 t2 t3 _ A2.out).mono ?_); rintro e w1 ⟨rfl, hd⟩; refine ⟨_, rfl, ?_⟩; have HB1 := Aside0.mk hd.below; clear hd; have hconv := Lib.run_convert_string_bytes (P := Tryd.prog) w1 9 55 5 (t1 ++ t2) Tryd.underlying9 Tryd.underlying55 Tryd.underlying5; have HBW := Aside0.mk (below_convR w1 5 (t1 ++ t2)); have HCB := Aside0.mk (Lib.bytesWorld_cell w1 5 (t1 ++ t2)); generalize Lib.bytesWorld w1 5 (t1 ++ t2) = W1 at hconv HBW HCB; have hsz : (t1 ++ t2).size = n := (ByteArray.size_append.trans HN.out.symm); rw [hsz] at hconv HCB; clear hsz))
 go_loopw [19] (fun v19 w' => ∃ k : Nat, k ≤ n ∧ v19 = .int .i64 (k : Int) ∧ Aside0 (((t1 ++ t2).data.toList.take k).all letB = true) ∧ Drawn0 W1 w') (fun v19 _ => n - (intOf v19).toNat)
 case atStart => exact ⟨0, Nat.zero_le _, rfl, ⟨rfl⟩, Drawn0.refl _⟩
 case round =>
  obtain ⟨k, hk, rfl, HA, ⟨m1, rfl⟩⟩ := hrel
  by_cases hlt : k < n
  ·have hc0 := HCB.out k hlt
   obtain ⟨c, hc⟩ : ∃ c : UInt8, c = (t1 ++ t2).data.toList.getD k 0 := ⟨_, rfl⟩
   rw [← hc] at hc0
   have HC := Aside0.mk hc
   clear hc
   have hsn := take_snocR ((t1 ++ t2).data.toList) k (by rw [HSL.out]; exact hlt)
   rw [← HC.out] at hsn
   have HS := Aside0.mk hsn
   clear hsn
   obtain ⟨t, ht⟩ : ∃ t : Int, strings_IndexByte.f (⟨#[98, 119, 108, 116]⟩ : ByteArray) ((c.toNat : Nat) : Int) = some t := ⟨_, rfl⟩
   have htl : letB c = !decide (t < 0) := by
    have e : strings_IndexByte.f (⟨#[98, 119, 108, 116]⟩ : ByteArray) ((c.toNat : Nat) : Int) = some (Lib.indexByte [98, 119, 108, 116] (((c.toNat : Nat) : Int).toNat.toUInt8)) := rfl
    rw [toNat_toUInt8] at e
    rw [letB, Option.some.inj (ht.symm.trans e)]
   have HT := Aside0.mk htl
   have A3 := Aside0.mk ht
   clear htl ht
   by_cases ct : t < 0
   ·have ctb : decide (t < 0) = true := decide_eq_true ct
    have hf : letB c = false := by rw [HT.out, ctb]; rfl
    have hr : r = false := by
     rw [← HR.out]
     have : (t1 ++ t2).data.toList.all letB = false := by
      rw [← List.take_append_drop (k + 1) ((t1 ++ t2).data.toList), List.all_append, HS.out, List.all_append]
      simp [hf]
     rw [this]
     rfl
    subst hr
    clear ct hf
    go_wp2_with (first | ((with_reducible refine gate_callee (f := 54) rfl ?_); refine goesL_ (some 24) rfl rfl Tryd.func54 (by kernel_rfl) rfl #[.string (⟨#[98, 119, 108, 116]⟩ : ByteArray), .int .u8 ((c.toNat : Nat) : Int)] rfl am ?_; (with_reducible refine (strings_IndexByte.calls (⟨#[98, 119, 108, 116]⟩ : ByteArray) ((c.toNat : Nat) : Int) t _ A3.out).mono ?_); rintro e w' ⟨rfl, ⟨nd, rfl⟩⟩; refine ⟨_, rfl, ?_⟩))
    go_ret
    exact ⟨rfl, ((HB1.out.trans (HBW.out.mono HB1.out.size)).trans ((Drawn0.step (Drawn0.refl W1) _).below.mono (HB1.out.trans (HBW.out.mono HB1.out.size)).size))⟩
   ·have ctb : decide (t < 0) = false := decide_eq_false ct
    have hf : letB c = true := by rw [HT.out, ctb]; rfl
    have HF : Aside0 (((t1 ++ t2).data.toList.take (k + 1)).all letB = true) := ⟨by rw [HS.out, List.all_append, HA.out]; simp [hf]⟩
    clear ct hf
    go_wp2_with (first | ((with_reducible refine gate_callee (f := 54) rfl ?_); refine goesL_ (some 24) rfl rfl Tryd.func54 (by kernel_rfl) rfl #[.string (⟨#[98, 119, 108, 116]⟩ : ByteArray), .int .u8 ((c.toNat : Nat) : Int)] rfl am ?_; (with_reducible refine (strings_IndexByte.calls (⟨#[98, 119, 108, 116]⟩ : ByteArray) ((c.toNat : Nat) : Int) t _ A3.out).mono ?_); rintro e w' ⟨rfl, ⟨nd, rfl⟩⟩; refine ⟨_, rfl, ?_⟩))
    go_roundw
    case rel => exact ⟨k + 1, by omega, by go_num, HF, Drawn0.step (Drawn0.refl W1) _⟩
    case measure => simp [intOf]; omega
  ·obtain rfl : k = n := by omega
   have hall : (t1 ++ t2).data.toList.all letB = true := by have := HA.out; rwa [List.take_of_length_le (by rw [HSL.out]; exact Nat.le_refl _)] at this
   have hr : (!t3 || (t2.toList != ([] : List UInt8))) = r := by have := HR.out; rw [hall] at this; simpa using this
   have HRR := Aside0.mk hr
   clear hr hall
   cases t3
   ·have hr : r = true := by rw [← HRR.out]; rfl
    subst hr
    go_wp2
    go_ret
    exact ⟨rfl, ((HB1.out.trans (HBW.out.mono HB1.out.size)).trans ((Drawn0.step (Drawn0.refl W1) _).below.mono (HB1.out.trans (HBW.out.mono HB1.out.size)).size))⟩
   ·obtain rfl : (t2.toList != ([] : List UInt8)) = r := by have := HRR.out; simpa using this
    go_wp2
    go_ret
    exact ⟨congrArg (fun b : Bool => Ending.returned (.bool b)) (show (!t2.toList.isEmpty) = (t2.toList != ([] : List UInt8)) by cases t2.toList <;> rfl), ((HB1.out.trans (HBW.out.mono HB1.out.size)).trans ((Drawn0.step (Drawn0.refl W1) _).below.mono (HB1.out.trans (HBW.out.mono HB1.out.size)).size))⟩

end Go.Proofs.YtmjgifhgodgghaaDoor.P
