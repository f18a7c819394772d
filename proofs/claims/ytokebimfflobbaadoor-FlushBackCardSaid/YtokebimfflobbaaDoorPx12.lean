-- Printed by this session's program wip/xp.py (a turned copy of the kit's printer): functions, their contracts.
import Derived.Test.YtokebimfflobbaaDoorPx0
import Derived.Test.YtokebimfflobbaaDoorPx2
import Derived.Test.YtokebimfflobbaaDoorPx4
import Derived.Test.YtokebimfflobbaaDoorPx7
import Derived.Test.YtokebimfflobbaaDoorPx8
import Derived.Test.YtokebimfflobbaaDoorPx9
namespace Go.Proofs.YtokebimfflobbaaDoor.P
open Go.RowKit Go.Proofs.YtokebimfflobbaaDoorW.PrintWords Go.Proofs.YtokebimfflobbaaDoorW.PrintLast Go.Proofs.YtokebimfflobbaaDoorW.PrintMore
attribute [local go_sem] max2_int min2_int max_two min_two max_three min_three max_four min_four   -- for this text's walks alone
set_option linter.unusedVariables false
set_option linter.unusedSimpArgs false

/-! ### flush_Own: function 19 -/
def flush_Own.f (k : Nat) (a0_0 : Int) (l0_1 : List (S47)) (l1 : List (List ByteArray)) : Option (ByteArray × Int) := (flush_Longest.f k l1).bind fun bt379 => (if bt379.2 = 0 then ((flush_Encode.f k a0_0 l0_1 bt379.1).bind fun bt383 => (some (bt383.1, bt383.2))) else (some ((⟨#[]⟩ : ByteArray), bt379.2)))
theorem flush_Own.mono : ∀ a0 a1 a2 k, LeO (flush_Own.f k a0 a1 a2) (flush_Own.f (k + 1) a0 a1 a2) := by
 intro a0 a1 a2 k
 unfold flush_Own.f
 repeat' first
   | (with_reducible exact flush_Encode.mono _ _ _ _)
   | (with_reducible exact flush_Longest.mono _ _)
   | (with_reducible exact LeO.refl _)
   | (with_reducible exact LeO.none _)
   | (with_reducible refine LeO.ite ?_ ?_)
   | (with_reducible refine LeO.bind ?_ (fun _ => ?_))
   | exact flush_Encode.mono _ _ _ _
   | exact flush_Longest.mono _ _
   | exact LeO.none _
   | refine LeO.ite ?_ ?_
   | refine LeO.bind ?_ (fun _ => ?_)
set_option maxHeartbeats 8000000 in
set_option maxRecDepth 100000 in
theorem flush_Own.calls (k : Nat) (a0_0 : Int) (A0_1 : Option Addr) (c0_1 : Nat) (l0_1 : List (S47)) (A1 : Option Addr) (c1 : Nat) (l1 : List (List ByteArray)) (r1 : ByteArray) (r2 : Int) (w : World) (hr0_1 : Kd.C k47 w A0_1 l0_1.length l0_1) (hc0_1 : l0_1.length ≤ c0_1) (hr1 : Kd.C (Kd.slice 9 Kd.string) w A1 l1.length l1) (hc1 : l1.length ≤ c1) (HT_ : TabOk w) (h : flush_Own.f k a0_0 l0_1 l1 = some (r1, r2)) :
  Calls Tryd.prog 19 #[.agg #[.int .i64 a0_0, .slice A0_1 l0_1.length c0_1], .slice A1 l1.length c1] w fun e w' => e = .returned (.tuple #[.string r1, .int .i64 r2]) ∧ Below w.heap.size w w' := by
 have HT := Aside0.mk HT_
 clear HT_
 have hu35 := Tryd.underlying35
 have HR0_1 := Aside0.mk hr0_1
 have HC0_1 := Aside0.mk hc0_1
 clear hr0_1 hc0_1
 have HR1 := Aside0.mk hr1
 have HC1 := Aside0.mk hc1
 clear hr1 hc1
 have HB := Aside0.mk (Below.refl w.heap.size w)
 have H : ((flush_Longest.f k l1).bind fun bt379 => (if bt379.2 = 0 then ((flush_Encode.f k a0_0 l0_1 bt379.1).bind fun bt383 => (some (bt383.1, bt383.2))) else (some ((⟨#[]⟩ : ByteArray), bt379.2)))) = some (r1, r2) := h
 clear h
 replace H := Option.bind_eq_some_iff.mp H
 obtain ⟨⟨t379, t382⟩, A30, H⟩ := H
 replace H : (if t382 = 0 then ((flush_Encode.f k a0_0 l0_1 t379).bind fun bt383 => (some (bt383.1, bt383.2))) else (some ((⟨#[]⟩ : ByteArray), t382))) = some (r1, r2) := H
 have A3 := Aside0.mk A30
 clear A30
 by_cases c4 : t382 = 0
 ·rw [if_pos c4] at H
  have c4b0 : (t382 == 0) = true := beq_iff_eq.mpr c4
  have c4b1 : (t382 != 0) = false := bne_eq_false_iff_eq.mpr c4
  clear c4
  replace H := Option.bind_eq_some_iff.mp H
  obtain ⟨⟨t383, t384⟩, A50, H⟩ := H
  replace H : (some (t383, t384)) = some (r1, r2) := H
  have A5 := Aside0.mk A50
  clear A50
  simp only [Option.some.injEq, Prod.mk.injEq] at H
  obtain ⟨rfl, rfl⟩ := H
  go_enter Tryd.func19, Tryd.ntmps19
  go_wp2_with (first | ((with_reducible refine gate_dst (N := 2) rfl ?_); refine box_event ?hg (N := 2) ?hd (cs := #[.int .i64 a0_0, .slice A0_1 l0_1.length c0_1]) (t := 35) ?hr ?_; (case hd => rfl); (case hg => rfl); (case hr => first | (go_simp; done) | (go_simp; rfl)); intro gb378 hg w6 hbox hb; have n0_ := Aside0.mk (below_step bw hb); have n1_ := Aside0.mk (hbox); have n2_ := Aside0.mk ((g1 hg bw : w.heap.size ≤ gb378)); have n3_ := Aside0.mk ((g1 hg bw : w.heap.size ≤ gb378)); clear HB; have HB := n0_; have BK378 := n1_; have GW378 := n2_; have GE378 := n3_; clear n0_ n1_ n2_ n3_; clear hb hbox hg) | ((with_reducible refine gate_callee (f := 10) rfl ?_); refine goesL_ (some 10) rfl rfl Tryd.func10 (by kernel_rfl) rfl #[.slice A1 l1.length c1] rfl am ?_; (with_reducible refine (flush_Longest.calls k (fun k_ => k_ < w.heap.size) _ _ l1 t379 t382 _ ?side1 A3.out).mono ?_); (case side1 => exact Kd.V_mk HC1.out (Kd.F_below (Kd.C_F (Kd.heap_slice 9 Kd.heap_string) HR1.out) bw)); rintro e w7 ⟨v380, rfl, ho0, hb⟩; refine ⟨_, rfl, ?_⟩; have n0_ := Aside0.mk (Kd.R_lower (Kd.R_mono (ok' := fun k_ => True) ho0 (fun _ hk_ => trivial)) (below_size bw)); have n1_ := Aside0.mk (nb BK378.out hb); have n2_ := Aside0.mk (below_step bw hb); clear BK378; clear HB; have HO381 := n0_; have BK378 := n1_; have HB := n2_; clear n0_ n1_ n2_; (try clear hb); (try clear hb2); (try clear hk); (try clear hi); (try clear ho0); have hcz8_0 := bc2_0 BK378.out; have hcz8_1 := bc2_1 BK378.out; have hfz8_0 := blk_frozen BK378.out 0; have hfz8_1 := blk_frozen BK378.out 1; obtain ⟨Ao9, co9, eo9⟩ := Kd.R_slice HO381.out; subst eo9) | ((with_reducible refine gate_callee (f := 16) rfl ?_); refine goesL_ (some 18) rfl rfl Tryd.func16 (by kernel_rfl) rfl #[.agg #[.int .i64 a0_0, .slice A0_1 l0_1.length c0_1], .slice Ao9 t379.length co9] rfl am ?_; (with_reducible refine (flush_Encode.calls k a0_0 _ _ l0_1 _ _ t379 t383 t384 _ ?side1 ?side2 ?side3 ?side4 tbk A5.out).mono ?_); (case side1 => repeat (first | exact (Kd.C_below HR0_1.out HB.out) | (with_reducible refine Kd.C_alloc ?_ _) | (with_reducible refine Kd.C_drewN ?_ _) | (with_reducible refine Kd.C_drew ?_))); (case side2 => exact HC0_1.out); (case side3 => repeat (first | exact (Kd.R_reads' HO381.out).2.2 | (with_reducible refine Kd.C_alloc ?_ _) | (with_reducible refine Kd.C_drewN ?_ _) | (with_reducible refine Kd.C_drew ?_))); (case side4 => exact (Kd.R_reads' HO381.out).2.1); rintro e w10 ⟨rfl, hb⟩; refine ⟨_, rfl, ?_⟩; have n0_ := Aside0.mk (Kd.R_below (by (with_reducible repeat (first | apply Kd.R_alloc | apply Kd.R_drewN | apply Kd.R_drew)); exact HO381.out) hb); have n1_ := Aside0.mk (nb BK378.out hb); have n2_ := Aside0.mk (below_step bw hb); clear HO381; clear BK378; clear HB; have HO381 := n0_; have BK378 := n1_; have HB := n2_; clear n0_ n1_ n2_; (try clear hb); (try clear hb2); (try clear hk); (try clear hi)))
  go_ret2
  exact ⟨er, bw⟩
 ·rw [if_neg c4] at H
  have c4b0 : (t382 == 0) = false := beq_eq_false_iff_ne.mpr c4
  have c4b1 : (t382 != 0) = true := bne_iff_ne.mpr c4
  simp only [Option.some.injEq, Prod.mk.injEq] at H
  obtain ⟨rfl, rfl⟩ := H
  go_enter Tryd.func19, Tryd.ntmps19
  go_wp2_with (first | ((with_reducible refine gate_dst (N := 2) rfl ?_); refine box_event ?hg (N := 2) ?hd (cs := #[.int .i64 a0_0, .slice A0_1 l0_1.length c0_1]) (t := 35) ?hr ?_; (case hd => rfl); (case hg => rfl); (case hr => first | (go_simp; done) | (go_simp; rfl)); intro gb378 hg w11 hbox hb; have n0_ := Aside0.mk (below_step bw hb); have n1_ := Aside0.mk (hbox); have n2_ := Aside0.mk ((g1 hg bw : w.heap.size ≤ gb378)); have n3_ := Aside0.mk ((g1 hg bw : w.heap.size ≤ gb378)); clear HB; have HB := n0_; have BK378 := n1_; have GW378 := n2_; have GE378 := n3_; clear n0_ n1_ n2_ n3_; clear hb hbox hg) | ((with_reducible refine gate_callee (f := 10) rfl ?_); refine goesL_ (some 10) rfl rfl Tryd.func10 (by kernel_rfl) rfl #[.slice A1 l1.length c1] rfl am ?_; (with_reducible refine (flush_Longest.calls k (fun k_ => k_ < w.heap.size) _ _ l1 t379 t382 _ ?side1 A3.out).mono ?_); (case side1 => exact Kd.V_mk HC1.out (Kd.F_below (Kd.C_F (Kd.heap_slice 9 Kd.heap_string) HR1.out) bw)); rintro e w12 ⟨v380, rfl, ho0, hb⟩; refine ⟨_, rfl, ?_⟩; have n0_ := Aside0.mk (Kd.R_lower (Kd.R_mono (ok' := fun k_ => True) ho0 (fun _ hk_ => trivial)) (below_size bw)); have n1_ := Aside0.mk (nb BK378.out hb); have n2_ := Aside0.mk (below_step bw hb); clear BK378; clear HB; have HO381 := n0_; have BK378 := n1_; have HB := n2_; clear n0_ n1_ n2_; (try clear hb); (try clear hb2); (try clear hk); (try clear hi); (try clear ho0)))
  go_ret2
  exact ⟨er, bw⟩

/-! ### carillonlaw19_FlushOwns: function 7 -/
def carillonlaw19_FlushOwns.f (k : Nat) (a0_0 : Int) (l0_1 : List (S47)) (l1 : List (List ByteArray)) : Option (Bool) := (carillonlaw19_examples.f).bind fun t386 => ((flush_Own.f k a0_0 l0_1 l1).bind fun bt387 => ((flush_Longest.f k l1).bind fun bt389 => (if bt389.2 = 0 then ((flush_Encode.f k a0_0 l0_1 bt389.1).bind fun bt393 => (if bt387.2 = 0 then ((flush_Decode.f k bt387.1).bind fun bt395 => ((carillonlaw19_views.f k bt395.1 bt395.2.1 a0_0 l0_1).bind fun t404 => ((carillonlaw19_texts.f k bt395.2.2.1 bt389.1).bind fun t405 => (if t386 = true then (if bt387.1.toList = bt393.1.toList then (if t404 = true then (if t405 = true then (some (bt395.2.2.2 == 0)) else (some false)) else (some false)) else (some false)) else (some false))))) else (if t386 = true then (if bt387.1.toList = ([] : List UInt8) then (some (bt387.2 == bt393.2)) else (some false)) else (some false)))) else (if t386 = true then (if bt387.1.toList = ([] : List UInt8) then (some (bt387.2 == bt389.2)) else (some false)) else (some false)))))
theorem carillonlaw19_FlushOwns.mono : ∀ a0 a1 a2 k, LeO (carillonlaw19_FlushOwns.f k a0 a1 a2) (carillonlaw19_FlushOwns.f (k + 1) a0 a1 a2) := by
 intro a0 a1 a2 k
 unfold carillonlaw19_FlushOwns.f
 repeat' first
   | (with_reducible exact carillonlaw19_texts.mono _ _ _)
   | (with_reducible exact carillonlaw19_views.mono _ _ _ _ _)
   | (with_reducible exact flush_Decode.mono _ _)
   | (with_reducible exact flush_Encode.mono _ _ _ _)
   | (with_reducible exact flush_Longest.mono _ _)
   | (with_reducible exact flush_Own.mono _ _ _ _)
   | (with_reducible exact LeO.refl _)
   | (with_reducible exact LeO.none _)
   | (with_reducible refine LeO.ite ?_ ?_)
   | (with_reducible refine LeO.bind ?_ (fun _ => ?_))
   | exact carillonlaw19_texts.mono _ _ _
   | exact carillonlaw19_views.mono _ _ _ _ _
   | exact flush_Decode.mono _ _
   | exact flush_Encode.mono _ _ _ _
   | exact flush_Longest.mono _ _
   | exact flush_Own.mono _ _ _ _
   | exact LeO.none _
   | refine LeO.ite ?_ ?_
   | refine LeO.bind ?_ (fun _ => ?_)
set_option maxHeartbeats 8000000 in
set_option maxRecDepth 100000 in
theorem carillonlaw19_FlushOwns.calls (k : Nat) (a0_0 : Int) (A0_1 : Option Addr) (c0_1 : Nat) (l0_1 : List (S47)) (A1 : Option Addr) (c1 : Nat) (l1 : List (List ByteArray)) (r : Bool) (w : World) (hr0_1 : Kd.C k47 w A0_1 l0_1.length l0_1) (hc0_1 : l0_1.length ≤ c0_1) (hr1 : Kd.C (Kd.slice 9 Kd.string) w A1 l1.length l1) (hc1 : l1.length ≤ c1) (hr_ : Aside0 (r = true)) (HT_ : TabOk w) (h : carillonlaw19_FlushOwns.f k a0_0 l0_1 l1 = some r) :
  Calls Tryd.prog 7 #[.agg #[.int .i64 a0_0, .slice A0_1 l0_1.length c0_1], .slice A1 l1.length c1] w fun e w' => e = .returned (.bool r) ∧ Below w.heap.size w w' := by
 have HT := Aside0.mk HT_
 clear HT_
 have hu35 := Tryd.underlying35
 have HR0_1 := Aside0.mk hr0_1
 have HC0_1 := Aside0.mk hc0_1
 clear hr0_1 hc0_1
 have HR1 := Aside0.mk hr1
 have HC1 := Aside0.mk hc1
 clear hr1 hc1
 have HB := Aside0.mk (Below.refl w.heap.size w)
 have H : ((carillonlaw19_examples.f).bind fun t386 => ((flush_Own.f k a0_0 l0_1 l1).bind fun bt387 => ((flush_Longest.f k l1).bind fun bt389 => (if bt389.2 = 0 then ((flush_Encode.f k a0_0 l0_1 bt389.1).bind fun bt393 => (if bt387.2 = 0 then ((flush_Decode.f k bt387.1).bind fun bt395 => ((carillonlaw19_views.f k bt395.1 bt395.2.1 a0_0 l0_1).bind fun t404 => ((carillonlaw19_texts.f k bt395.2.2.1 bt389.1).bind fun t405 => (if t386 = true then (if bt387.1.toList = bt393.1.toList then (if t404 = true then (if t405 = true then (some (bt395.2.2.2 == 0)) else (some false)) else (some false)) else (some false)) else (some false))))) else (if t386 = true then (if bt387.1.toList = ([] : List UInt8) then (some (bt387.2 == bt393.2)) else (some false)) else (some false)))) else (if t386 = true then (if bt387.1.toList = ([] : List UInt8) then (some (bt387.2 == bt389.2)) else (some false)) else (some false)))))) = some r := h
 clear h
 replace H := Option.bind_eq_some_iff.mp H
 obtain ⟨t386, A30, H⟩ := H
 replace H : ((flush_Own.f k a0_0 l0_1 l1).bind fun bt387 => ((flush_Longest.f k l1).bind fun bt389 => (if bt389.2 = 0 then ((flush_Encode.f k a0_0 l0_1 bt389.1).bind fun bt393 => (if bt387.2 = 0 then ((flush_Decode.f k bt387.1).bind fun bt395 => ((carillonlaw19_views.f k bt395.1 bt395.2.1 a0_0 l0_1).bind fun t404 => ((carillonlaw19_texts.f k bt395.2.2.1 bt389.1).bind fun t405 => (if t386 = true then (if bt387.1.toList = bt393.1.toList then (if t404 = true then (if t405 = true then (some (bt395.2.2.2 == 0)) else (some false)) else (some false)) else (some false)) else (some false))))) else (if t386 = true then (if bt387.1.toList = ([] : List UInt8) then (some (bt387.2 == bt393.2)) else (some false)) else (some false)))) else (if t386 = true then (if bt387.1.toList = ([] : List UInt8) then (some (bt387.2 == bt389.2)) else (some false)) else (some false))))) = some r := H
 have A3 := Aside0.mk A30
 clear A30
 replace H := Option.bind_eq_some_iff.mp H
 obtain ⟨⟨t387, t388⟩, A40, H⟩ := H
 replace H : ((flush_Longest.f k l1).bind fun bt389 => (if bt389.2 = 0 then ((flush_Encode.f k a0_0 l0_1 bt389.1).bind fun bt393 => (if t388 = 0 then ((flush_Decode.f k t387).bind fun bt395 => ((carillonlaw19_views.f k bt395.1 bt395.2.1 a0_0 l0_1).bind fun t404 => ((carillonlaw19_texts.f k bt395.2.2.1 bt389.1).bind fun t405 => (if t386 = true then (if t387.toList = bt393.1.toList then (if t404 = true then (if t405 = true then (some (bt395.2.2.2 == 0)) else (some false)) else (some false)) else (some false)) else (some false))))) else (if t386 = true then (if t387.toList = ([] : List UInt8) then (some (t388 == bt393.2)) else (some false)) else (some false)))) else (if t386 = true then (if t387.toList = ([] : List UInt8) then (some (t388 == bt389.2)) else (some false)) else (some false)))) = some r := H
 have A4 := Aside0.mk A40
 clear A40
 replace H := Option.bind_eq_some_iff.mp H
 obtain ⟨⟨t389, t392⟩, A50, H⟩ := H
 replace H : (if t392 = 0 then ((flush_Encode.f k a0_0 l0_1 t389).bind fun bt393 => (if t388 = 0 then ((flush_Decode.f k t387).bind fun bt395 => ((carillonlaw19_views.f k bt395.1 bt395.2.1 a0_0 l0_1).bind fun t404 => ((carillonlaw19_texts.f k bt395.2.2.1 t389).bind fun t405 => (if t386 = true then (if t387.toList = bt393.1.toList then (if t404 = true then (if t405 = true then (some (bt395.2.2.2 == 0)) else (some false)) else (some false)) else (some false)) else (some false))))) else (if t386 = true then (if t387.toList = ([] : List UInt8) then (some (t388 == bt393.2)) else (some false)) else (some false)))) else (if t386 = true then (if t387.toList = ([] : List UInt8) then (some (t388 == t392)) else (some false)) else (some false))) = some r := H
 have A5 := Aside0.mk A50
 clear A50
 by_cases c6 : t392 = 0
 ·rw [if_pos c6] at H
  have c6b0 : (t392 == 0) = true := beq_iff_eq.mpr c6
  have c6b1 : (t392 != 0) = false := bne_eq_false_iff_eq.mpr c6
  clear c6
  replace H := Option.bind_eq_some_iff.mp H
  obtain ⟨⟨t393, t394⟩, A70, H⟩ := H
  replace H : (if t388 = 0 then ((flush_Decode.f k t387).bind fun bt395 => ((carillonlaw19_views.f k bt395.1 bt395.2.1 a0_0 l0_1).bind fun t404 => ((carillonlaw19_texts.f k bt395.2.2.1 t389).bind fun t405 => (if t386 = true then (if t387.toList = t393.toList then (if t404 = true then (if t405 = true then (some (bt395.2.2.2 == 0)) else (some false)) else (some false)) else (some false)) else (some false))))) else (if t386 = true then (if t387.toList = ([] : List UInt8) then (some (t388 == t394)) else (some false)) else (some false))) = some r := H
  have A7 := Aside0.mk A70
  clear A70
  by_cases c8 : t388 = 0
  ·rw [if_pos c8] at H
   have c8b0 : (t388 == 0) = true := beq_iff_eq.mpr c8
   have c8b1 : (t388 != 0) = false := bne_eq_false_iff_eq.mpr c8
   clear c8
   replace H := Option.bind_eq_some_iff.mp H
   obtain ⟨⟨t395, t396, t399, t402⟩, A90, H⟩ := H
   replace H : ((carillonlaw19_views.f k t395 t396 a0_0 l0_1).bind fun t404 => ((carillonlaw19_texts.f k t399 t389).bind fun t405 => (if t386 = true then (if t387.toList = t393.toList then (if t404 = true then (if t405 = true then (some (t402 == 0)) else (some false)) else (some false)) else (some false)) else (some false)))) = some r := H
   have A9 := Aside0.mk A90
   clear A90
   replace H := Option.bind_eq_some_iff.mp H
   obtain ⟨t404, A100, H⟩ := H
   replace H : ((carillonlaw19_texts.f k t399 t389).bind fun t405 => (if t386 = true then (if t387.toList = t393.toList then (if t404 = true then (if t405 = true then (some (t402 == 0)) else (some false)) else (some false)) else (some false)) else (some false))) = some r := H
   have A10 := Aside0.mk A100
   clear A100
   replace H := Option.bind_eq_some_iff.mp H
   obtain ⟨t405, A110, H⟩ := H
   replace H : (if t386 = true then (if t387.toList = t393.toList then (if t404 = true then (if t405 = true then (some (t402 == 0)) else (some false)) else (some false)) else (some false)) else (some false)) = some r := H
   have A11 := Aside0.mk A110
   clear A110
   by_cases c12 : t386 = true
   ·subst c12
    have H1 : (if t387.toList = t393.toList then (if t404 = true then (if t405 = true then (some (t402 == 0)) else (some false)) else (some false)) else (some false)) = some r := by rw [if_pos rfl] at H; exact H
    clear H
    have H := H1
    clear H1
    by_cases c13 : t387.toList = t393.toList
    ·rw [if_pos c13] at H
     have c13b0 : (t387.toList == t393.toList) = true := beq_iff_eq.mpr c13
     have c13b1 : (t387.toList != t393.toList) = false := bne_eq_false_iff_eq.mpr c13
     clear c13
     by_cases c14 : t404 = true
     ·subst c14
      have H1 : (if t405 = true then (some (t402 == 0)) else (some false)) = some r := by rw [if_pos rfl] at H; exact H
      clear H
      have H := H1
      clear H1
      by_cases c15 : t405 = true
      ·subst c15
       have H1 : (some (t402 == 0)) = some r := by rw [if_pos rfl] at H; exact H
       clear H
       have H := H1
       clear H1
       obtain rfl := Option.some.inj H
       go_enter Tryd.func7, Tryd.ntmps7
       go_wp2_with (first | ((with_reducible refine gate_dst (N := 2) rfl ?_); refine box_event ?hg (N := 2) ?hd (cs := #[.int .i64 a0_0, .slice A0_1 l0_1.length c0_1]) (t := 35) ?hr ?_; (case hd => rfl); (case hg => rfl); (case hr => first | (go_simp; done) | (go_simp; rfl)); intro gb385 hg w16 hbox hb; have n0_ := Aside0.mk (below_step bw hb); have n1_ := Aside0.mk (hbox); have n2_ := Aside0.mk ((g1 hg bw : w.heap.size ≤ gb385)); have n3_ := Aside0.mk ((g1 hg bw : w.heap.size ≤ gb385)); clear HB; have HB := n0_; have BK385 := n1_; have GW385 := n2_; have GE385 := n3_; clear n0_ n1_ n2_ n3_; clear hb hbox hg) | ((with_reducible refine gate_callee (f := 8) rfl ?_); refine goesL_ (some 17) rfl rfl Tryd.func8 (by kernel_rfl) rfl #[] rfl am ?_; (with_reducible refine (carillonlaw19_examples.calls  true _ tbk A3.out).mono ?_); rintro e w17 ⟨rfl, hb⟩; refine ⟨_, rfl, ?_⟩; have n0_ := Aside0.mk (nb BK385.out hb); have n1_ := Aside0.mk (below_step bw hb); clear BK385; clear HB; have BK385 := n0_; have HB := n1_; clear n0_ n1_; (try clear hb); (try clear hb2); (try clear hk); (try clear hi); have hcz18_0 := bc2_0 BK385.out; have hcz18_1 := bc2_1 BK385.out; have hfz18_0 := blk_frozen BK385.out 0; have hfz18_1 := blk_frozen BK385.out 1) | ((with_reducible refine gate_callee (f := 19) rfl ?_); refine goesL_ (some 21) rfl rfl Tryd.func19 (by kernel_rfl) rfl #[.agg #[.int .i64 a0_0, .slice A0_1 l0_1.length c0_1], .slice A1 l1.length c1] rfl am ?_; (with_reducible refine (flush_Own.calls k a0_0 _ _ l0_1 _ _ l1 t387 t388 _ ?side1 ?side2 ?side3 ?side4 tbk A4.out).mono ?_); (case side1 => repeat (first | exact (Kd.C_below HR0_1.out HB.out) | (with_reducible refine Kd.C_alloc ?_ _) | (with_reducible refine Kd.C_drewN ?_ _) | (with_reducible refine Kd.C_drew ?_))); (case side2 => exact HC0_1.out); (case side3 => repeat (first | exact (Kd.C_below HR1.out HB.out) | (with_reducible refine Kd.C_alloc ?_ _) | (with_reducible refine Kd.C_drewN ?_ _) | (with_reducible refine Kd.C_drew ?_))); (case side4 => exact HC1.out); rintro e w19 ⟨rfl, hb⟩; refine ⟨_, rfl, ?_⟩; have n0_ := Aside0.mk (nb BK385.out hb); have n1_ := Aside0.mk (below_step bw hb); clear BK385; clear HB; have BK385 := n0_; have HB := n1_; clear n0_ n1_; (try clear hb); (try clear hb2); (try clear hk); (try clear hi)) | ((with_reducible refine gate_callee (f := 10) rfl ?_); refine goesL_ (some 26) rfl rfl Tryd.func10 (by kernel_rfl) rfl #[.slice A1 l1.length c1] rfl am ?_; (with_reducible refine (flush_Longest.calls k (fun k_ => k_ < w.heap.size) _ _ l1 t389 t392 _ ?side1 A5.out).mono ?_); (case side1 => exact Kd.V_mk HC1.out (Kd.F_below (Kd.C_F (Kd.heap_slice 9 Kd.heap_string) HR1.out) bw)); rintro e w20 ⟨v390, rfl, ho0, hb⟩; refine ⟨_, rfl, ?_⟩; have n0_ := Aside0.mk (Kd.R_lower (Kd.R_mono (ok' := fun k_ => True) ho0 (fun _ hk_ => trivial)) (below_size bw)); have n1_ := Aside0.mk (nb BK385.out hb); have n2_ := Aside0.mk (below_step bw hb); clear BK385; clear HB; have HO391 := n0_; have BK385 := n1_; have HB := n2_; clear n0_ n1_ n2_; (try clear hb); (try clear hb2); (try clear hk); (try clear hi); (try clear ho0); have hcz21_0 := bc2_0 BK385.out; have hcz21_1 := bc2_1 BK385.out; have hfz21_0 := blk_frozen BK385.out 0; have hfz21_1 := blk_frozen BK385.out 1; obtain ⟨Ao22, co22, eo22⟩ := Kd.R_slice HO391.out; subst eo22) | ((with_reducible refine gate_callee (f := 16) rfl ?_); refine goesL_ (some 44) rfl rfl Tryd.func16 (by kernel_rfl) rfl #[.agg #[.int .i64 a0_0, .slice A0_1 l0_1.length c0_1], .slice Ao22 t389.length co22] rfl am ?_; (with_reducible refine (flush_Encode.calls k a0_0 _ _ l0_1 _ _ t389 t393 t394 _ ?side1 ?side2 ?side3 ?side4 tbk A7.out).mono ?_); (case side1 => repeat (first | exact (Kd.C_below HR0_1.out HB.out) | (with_reducible refine Kd.C_alloc ?_ _) | (with_reducible refine Kd.C_drewN ?_ _) | (with_reducible refine Kd.C_drew ?_))); (case side2 => exact HC0_1.out); (case side3 => repeat (first | exact (Kd.R_reads' HO391.out).2.2 | (with_reducible refine Kd.C_alloc ?_ _) | (with_reducible refine Kd.C_drewN ?_ _) | (with_reducible refine Kd.C_drew ?_))); (case side4 => exact (Kd.R_reads' HO391.out).2.1); rintro e w23 ⟨rfl, hb⟩; refine ⟨_, rfl, ?_⟩; have n0_ := Aside0.mk (Kd.R_below (by (with_reducible repeat (first | apply Kd.R_alloc | apply Kd.R_drewN | apply Kd.R_drew)); exact HO391.out) hb); have n1_ := Aside0.mk (nb BK385.out hb); have n2_ := Aside0.mk (below_step bw hb); clear HO391; clear BK385; clear HB; have HO391 := n0_; have BK385 := n1_; have HB := n2_; clear n0_ n1_ n2_; (try clear hb); (try clear hb2); (try clear hk); (try clear hi)) | ((with_reducible refine gate_callee (f := 17) rfl ?_); refine goesL_ (some 61) rfl rfl Tryd.func17 (by kernel_rfl) rfl #[.string t387] rfl am ?_; (with_reducible refine (flush_Decode.calls k t387 t395 t396 t399 t402 _ tbk A9.out).mono ?_); rintro e w24 ⟨v397, v400, rfl, ho0, ho1, hb⟩; refine ⟨_, rfl, ?_⟩; have n0_ := Aside0.mk (Kd.R_elder' (by (with_reducible repeat (first | apply Kd.R_alloc | apply Kd.R_drewN | apply Kd.R_drew)); exact HO391.out) (Kd.R_base ho1) hb); have n1_ := Aside0.mk (Kd.R_lower ho0 (below_size bw)); have n2_ := Aside0.mk (Kd.R_lower (Kd.R_new' ho1 (Kd.R_lt (by (with_reducible repeat (first | apply Kd.R_alloc | apply Kd.R_drewN | apply Kd.R_drew)); exact HO391.out))) (below_size bw)); have n3_ := Aside0.mk (nb BK385.out hb); have n4_ := Aside0.mk (below_step bw hb); clear HO391; clear BK385; clear HB; have HO391 := n0_; have HO398 := n1_; have HO401 := n2_; have BK385 := n3_; have HB := n4_; clear n0_ n1_ n2_ n3_ n4_; (try clear hb); (try clear hb2); (try clear hk); (try clear hi); (try clear ho0); (try clear ho1)) | ((with_reducible refine gate_dst (N := 12) rfl ?_); refine box_event ?hg (N := 12) ?hd (cs := #[.int .i64 0, .slice none 0 0]) (t := 35) ?hr ?_; (case hd => rfl); (case hg => rfl); (case hr => first | (go_simp; done) | (go_simp; rfl)); intro gb403 hg w25 hbox hb; have n0_ := Aside0.mk (Kd.R_below (by (with_reducible repeat (first | apply Kd.R_alloc | apply Kd.R_drewN | apply Kd.R_drew)); exact HO391.out) hb); have n1_ := Aside0.mk (Kd.R_below (by (with_reducible repeat (first | apply Kd.R_alloc | apply Kd.R_drewN | apply Kd.R_drew)); exact HO398.out) hb); have n2_ := Aside0.mk (Kd.R_below (by (with_reducible repeat (first | apply Kd.R_alloc | apply Kd.R_drewN | apply Kd.R_drew)); exact HO401.out) hb); have n3_ := Aside0.mk (nb BK385.out hb); have n4_ := Aside0.mk (below_step bw hb); have n5_ := Aside0.mk (hbox); have n6_ := Aside0.mk ((g1 hg bw : w.heap.size ≤ gb403)); have n7_ := Aside0.mk ((g1 hg bw : w.heap.size ≤ gb403)); have n8_ := Aside0.mk ((n1 hg BK385.out : gb385 ≠ gb403)); have n9_ := Aside0.mk ((n2 hg BK385.out : gb403 ≠ gb385)); clear HO391; clear HO398; clear HO401; clear BK385; clear HB; have HO391 := n0_; have HO398 := n1_; have HO401 := n2_; have BK385 := n3_; have HB := n4_; have BK403 := n5_; have GW403 := n6_; have GE403 := n7_; have NB385_403 := n8_; have NB403_385 := n9_; clear n0_ n1_ n2_ n3_ n4_ n5_ n6_ n7_ n8_ n9_; clear hb hbox hg; have hnb26 := NB403_385.out; have hnc26 := NB385_403.out; have hcz27_0 := bc2_0 BK403.out; have hcz27_1 := bc2_1 BK403.out; have hfz27_0 := blk_frozen BK403.out 0; have hfz27_1 := blk_frozen BK403.out 1; obtain ⟨Ao28, co28, eo28⟩ := Kd.R_slice HO398.out; subst eo28; have hcz29_0 := bc2_0 BK385.out; have hcz29_1 := bc2_1 BK385.out; have hfz29_0 := blk_frozen BK385.out 0; have hfz29_1 := blk_frozen BK385.out 1) | ((with_reducible refine gate_callee (f := 18) rfl ?_); refine goesL_ (some 67) rfl rfl Tryd.func18 (by kernel_rfl) rfl #[.agg #[.int .i64 t395, .slice Ao28 t396.length co28], .agg #[.int .i64 a0_0, .slice A0_1 l0_1.length c0_1]] rfl am ?_; (with_reducible refine (carillonlaw19_views.calls k t395 _ _ t396 a0_0 _ _ l0_1 true _ ?side1 ?side2 ?side3 ?side4 A10.out).mono ?_); (case side1 => refine (Kd.R_reads' (e := 47) (base := w.heap.size) (ok := fun k_ => True) (n := t396.length) (c := co28) ?_).2.2; exact (by (with_reducible repeat (first | apply Kd.R_alloc | apply Kd.R_drewN | apply Kd.R_drew)); exact (Kd.R_mono (Kd.R_far (p := ⟨gb403, 1, none⟩) (Kd.R_far (p := ⟨gb403, 0, none⟩) (Kd.R_types HO398.out BK403.out (by decide)) (fun _ hk => hk.2) (.int .i64 t395)) (fun _ hk => hk.2) (.slice Ao28 t396.length co28)) (fun _ h_ => h_.1)))); (case side2 => exact (Kd.R_reads' HO398.out).2.1); (case side3 => exact Kd.C_below HR0_1.out bw); (case side4 => exact HC0_1.out); rintro e w30 ⟨rfl, hb⟩; refine ⟨_, rfl, ?_⟩; have n0_ := Aside0.mk (Kd.R_below (by (with_reducible repeat (first | apply Kd.R_alloc | apply Kd.R_drewN | apply Kd.R_drew)); exact (Kd.R_mono (Kd.R_far (p := ⟨gb403, 1, none⟩) (Kd.R_far (p := ⟨gb403, 0, none⟩) (Kd.R_types HO391.out BK403.out (by decide)) (fun _ hk => hk.2) (.int .i64 t395)) (fun _ hk => hk.2) (.slice Ao28 t396.length co28)) (fun _ h_ => h_.1))) hb); have n1_ := Aside0.mk (Kd.R_below (by (with_reducible repeat (first | apply Kd.R_alloc | apply Kd.R_drewN | apply Kd.R_drew)); exact (Kd.R_mono (Kd.R_far (p := ⟨gb403, 1, none⟩) (Kd.R_far (p := ⟨gb403, 0, none⟩) (Kd.R_types HO398.out BK403.out (by decide)) (fun _ hk => hk.2) (.int .i64 t395)) (fun _ hk => hk.2) (.slice Ao28 t396.length co28)) (fun _ h_ => h_.1))) hb); have n2_ := Aside0.mk (Kd.R_below (by (with_reducible repeat (first | apply Kd.R_alloc | apply Kd.R_drewN | apply Kd.R_drew)); exact (Kd.R_mono (Kd.R_far (p := ⟨gb403, 1, none⟩) (Kd.R_far (p := ⟨gb403, 0, none⟩) (Kd.R_types HO401.out BK403.out (by decide)) (fun _ hk => hk.2) (.int .i64 t395)) (fun _ hk => hk.2) (.slice Ao28 t396.length co28)) (fun _ h_ => h_.1))) hb); have n3_ := Aside0.mk (blk_below (g := gb385) (o := .cells #[.int .i64 a0_0, .slice A0_1 l0_1.length c0_1] 35 (0, 0)) (by (with_reducible repeat (first | refine blk_drewN ?_ _ | refine blk_drew ?_ | refine blk_alloc ?_ _ | refine blk_far ?_ NB385_403.out _)); exact BK385.out) hb); have n4_ := Aside0.mk (blk_below (g := gb403) (o := .cells #[.int .i64 t395, .slice Ao28 t396.length co28] 35 (0, 0)) (by (with_reducible repeat (first | refine blk_drewN ?_ _ | refine blk_drew ?_ | refine blk_alloc ?_ _)); refine blk_put (cs := #[.int .i64 t395, .slice none 0 0]) ?_ 1 _ rfl; (with_reducible repeat (first | refine blk_drewN ?_ _ | refine blk_drew ?_ | refine blk_alloc ?_ _)); refine blk_put (cs := #[.int .i64 0, .slice none 0 0]) ?_ 0 _ rfl; (with_reducible repeat (first | refine blk_drewN ?_ _ | refine blk_drew ?_ | refine blk_alloc ?_ _)); exact BK403.out) hb); have n5_ := Aside0.mk (below_step bw hb); clear HO391; clear HO398; clear HO401; clear BK385; clear BK403; clear HB; have HO391 := n0_; have HO398 := n1_; have HO401 := n2_; have BK385 := n3_; have BK403 := n4_; have HB := n5_; clear n0_ n1_ n2_ n3_ n4_ n5_; (try clear hb); (try clear hb2); (try clear hk); (try clear hi); obtain ⟨Ao31, co31, eo31⟩ := Kd.R_slice HO401.out; subst eo31) | ((with_reducible refine gate_callee (f := 11) rfl ?_); refine goesL_ (some 70) rfl rfl Tryd.func11 (by kernel_rfl) rfl #[.slice Ao31 t399.length co31, .slice Ao22 t389.length co22] rfl am ?_; (with_reducible refine (carillonlaw19_texts.calls k _ _ t399 _ _ t389 true _ ?side1 ?side2 ?side3 ?side4 A11.out).mono ?_); (case side1 => repeat (first | exact (Kd.R_reads' HO401.out).2.2 | (with_reducible refine Kd.C_alloc ?_ _) | (with_reducible refine Kd.C_drewN ?_ _) | (with_reducible refine Kd.C_drew ?_))); (case side2 => exact (Kd.R_reads' HO401.out).2.1); (case side3 => repeat (first | exact (Kd.R_reads' HO391.out).2.2 | (with_reducible refine Kd.C_alloc ?_ _) | (with_reducible refine Kd.C_drewN ?_ _) | (with_reducible refine Kd.C_drew ?_))); (case side4 => exact (Kd.R_reads' HO391.out).2.1); rintro e w' ⟨rfl, ⟨nd, rfl⟩⟩; refine ⟨_, rfl, ?_⟩))
       go_ret
       exact ⟨er, bw⟩
      ·replace c15 := Bool.eq_false_iff.mpr c15
       subst c15
       have H1 : (some false) = some r := by rw [if_neg (show ¬ (false = true) by decide)] at H; exact H
       clear H
       have H := H1
       clear H1
       exact absurd ((Option.some.inj H).trans hr_.out) (by decide)
     ·replace c14 := Bool.eq_false_iff.mpr c14
      subst c14
      have H1 : (some false) = some r := by rw [if_neg (show ¬ (false = true) by decide)] at H; exact H
      clear H
      have H := H1
      clear H1
      exact absurd ((Option.some.inj H).trans hr_.out) (by decide)
    ·rw [if_neg c13] at H
     have c13b0 : (t387.toList == t393.toList) = false := beq_eq_false_iff_ne.mpr c13
     have c13b1 : (t387.toList != t393.toList) = true := bne_iff_ne.mpr c13
     exact absurd ((Option.some.inj H).trans hr_.out) (by decide)
   ·replace c12 := Bool.eq_false_iff.mpr c12
    subst c12
    have H1 : (some false) = some r := by rw [if_neg (show ¬ (false = true) by decide)] at H; exact H
    clear H
    have H := H1
    clear H1
    exact absurd ((Option.some.inj H).trans hr_.out) (by decide)
  ·rw [if_neg c8] at H
   have c8b0 : (t388 == 0) = false := beq_eq_false_iff_ne.mpr c8
   have c8b1 : (t388 != 0) = true := bne_iff_ne.mpr c8
   by_cases c32 : t386 = true
   ·subst c32
    have H1 : (if t387.toList = ([] : List UInt8) then (some (t388 == t394)) else (some false)) = some r := by rw [if_pos rfl] at H; exact H
    clear H
    have H := H1
    clear H1
    by_cases c33 : t387.toList = ([] : List UInt8)
    ·rw [if_pos c33] at H
     have c33b0 : (t387.toList == ([] : List UInt8)) = true := beq_iff_eq.mpr c33
     have c33b1 : (t387.toList != ([] : List UInt8)) = false := bne_eq_false_iff_eq.mpr c33
     clear c33
     obtain rfl := Option.some.inj H
     go_enter Tryd.func7, Tryd.ntmps7
     go_wp2_with (first | ((with_reducible refine gate_dst (N := 2) rfl ?_); refine box_event ?hg (N := 2) ?hd (cs := #[.int .i64 a0_0, .slice A0_1 l0_1.length c0_1]) (t := 35) ?hr ?_; (case hd => rfl); (case hg => rfl); (case hr => first | (go_simp; done) | (go_simp; rfl)); intro gb385 hg w34 hbox hb; have n0_ := Aside0.mk (below_step bw hb); have n1_ := Aside0.mk (hbox); have n2_ := Aside0.mk ((g1 hg bw : w.heap.size ≤ gb385)); have n3_ := Aside0.mk ((g1 hg bw : w.heap.size ≤ gb385)); clear HB; have HB := n0_; have BK385 := n1_; have GW385 := n2_; have GE385 := n3_; clear n0_ n1_ n2_ n3_; clear hb hbox hg) | ((with_reducible refine gate_callee (f := 8) rfl ?_); refine goesL_ (some 17) rfl rfl Tryd.func8 (by kernel_rfl) rfl #[] rfl am ?_; (with_reducible refine (carillonlaw19_examples.calls  true _ tbk A3.out).mono ?_); rintro e w35 ⟨rfl, hb⟩; refine ⟨_, rfl, ?_⟩; have n0_ := Aside0.mk (nb BK385.out hb); have n1_ := Aside0.mk (below_step bw hb); clear BK385; clear HB; have BK385 := n0_; have HB := n1_; clear n0_ n1_; (try clear hb); (try clear hb2); (try clear hk); (try clear hi); have hcz36_0 := bc2_0 BK385.out; have hcz36_1 := bc2_1 BK385.out; have hfz36_0 := blk_frozen BK385.out 0; have hfz36_1 := blk_frozen BK385.out 1) | ((with_reducible refine gate_callee (f := 19) rfl ?_); refine goesL_ (some 21) rfl rfl Tryd.func19 (by kernel_rfl) rfl #[.agg #[.int .i64 a0_0, .slice A0_1 l0_1.length c0_1], .slice A1 l1.length c1] rfl am ?_; (with_reducible refine (flush_Own.calls k a0_0 _ _ l0_1 _ _ l1 t387 t388 _ ?side1 ?side2 ?side3 ?side4 tbk A4.out).mono ?_); (case side1 => repeat (first | exact (Kd.C_below HR0_1.out HB.out) | (with_reducible refine Kd.C_alloc ?_ _) | (with_reducible refine Kd.C_drewN ?_ _) | (with_reducible refine Kd.C_drew ?_))); (case side2 => exact HC0_1.out); (case side3 => repeat (first | exact (Kd.C_below HR1.out HB.out) | (with_reducible refine Kd.C_alloc ?_ _) | (with_reducible refine Kd.C_drewN ?_ _) | (with_reducible refine Kd.C_drew ?_))); (case side4 => exact HC1.out); rintro e w37 ⟨rfl, hb⟩; refine ⟨_, rfl, ?_⟩; have n0_ := Aside0.mk (nb BK385.out hb); have n1_ := Aside0.mk (below_step bw hb); clear BK385; clear HB; have BK385 := n0_; have HB := n1_; clear n0_ n1_; (try clear hb); (try clear hb2); (try clear hk); (try clear hi)) | ((with_reducible refine gate_callee (f := 10) rfl ?_); refine goesL_ (some 26) rfl rfl Tryd.func10 (by kernel_rfl) rfl #[.slice A1 l1.length c1] rfl am ?_; (with_reducible refine (flush_Longest.calls k (fun k_ => k_ < w.heap.size) _ _ l1 t389 t392 _ ?side1 A5.out).mono ?_); (case side1 => exact Kd.V_mk HC1.out (Kd.F_below (Kd.C_F (Kd.heap_slice 9 Kd.heap_string) HR1.out) bw)); rintro e w38 ⟨v390, rfl, ho0, hb⟩; refine ⟨_, rfl, ?_⟩; have n0_ := Aside0.mk (Kd.R_lower (Kd.R_mono (ok' := fun k_ => True) ho0 (fun _ hk_ => trivial)) (below_size bw)); have n1_ := Aside0.mk (nb BK385.out hb); have n2_ := Aside0.mk (below_step bw hb); clear BK385; clear HB; have HO391 := n0_; have BK385 := n1_; have HB := n2_; clear n0_ n1_ n2_; (try clear hb); (try clear hb2); (try clear hk); (try clear hi); (try clear ho0); have hcz39_0 := bc2_0 BK385.out; have hcz39_1 := bc2_1 BK385.out; have hfz39_0 := blk_frozen BK385.out 0; have hfz39_1 := blk_frozen BK385.out 1; obtain ⟨Ao40, co40, eo40⟩ := Kd.R_slice HO391.out; subst eo40) | ((with_reducible refine gate_callee (f := 16) rfl ?_); refine goesL_ (some 44) rfl rfl Tryd.func16 (by kernel_rfl) rfl #[.agg #[.int .i64 a0_0, .slice A0_1 l0_1.length c0_1], .slice Ao40 t389.length co40] rfl am ?_; (with_reducible refine (flush_Encode.calls k a0_0 _ _ l0_1 _ _ t389 t393 t394 _ ?side1 ?side2 ?side3 ?side4 tbk A7.out).mono ?_); (case side1 => repeat (first | exact (Kd.C_below HR0_1.out HB.out) | (with_reducible refine Kd.C_alloc ?_ _) | (with_reducible refine Kd.C_drewN ?_ _) | (with_reducible refine Kd.C_drew ?_))); (case side2 => exact HC0_1.out); (case side3 => repeat (first | exact (Kd.R_reads' HO391.out).2.2 | (with_reducible refine Kd.C_alloc ?_ _) | (with_reducible refine Kd.C_drewN ?_ _) | (with_reducible refine Kd.C_drew ?_))); (case side4 => exact (Kd.R_reads' HO391.out).2.1); rintro e w41 ⟨rfl, hb⟩; refine ⟨_, rfl, ?_⟩; have n0_ := Aside0.mk (Kd.R_below (by (with_reducible repeat (first | apply Kd.R_alloc | apply Kd.R_drewN | apply Kd.R_drew)); exact HO391.out) hb); have n1_ := Aside0.mk (nb BK385.out hb); have n2_ := Aside0.mk (below_step bw hb); clear HO391; clear BK385; clear HB; have HO391 := n0_; have BK385 := n1_; have HB := n2_; clear n0_ n1_ n2_; (try clear hb); (try clear hb2); (try clear hk); (try clear hi)))
     go_ret
     exact ⟨er, bw⟩
    ·rw [if_neg c33] at H
     have c33b0 : (t387.toList == ([] : List UInt8)) = false := beq_eq_false_iff_ne.mpr c33
     have c33b1 : (t387.toList != ([] : List UInt8)) = true := bne_iff_ne.mpr c33
     exact absurd ((Option.some.inj H).trans hr_.out) (by decide)
   ·replace c32 := Bool.eq_false_iff.mpr c32
    subst c32
    have H1 : (some false) = some r := by rw [if_neg (show ¬ (false = true) by decide)] at H; exact H
    clear H
    have H := H1
    clear H1
    exact absurd ((Option.some.inj H).trans hr_.out) (by decide)
 ·rw [if_neg c6] at H
  have c6b0 : (t392 == 0) = false := beq_eq_false_iff_ne.mpr c6
  have c6b1 : (t392 != 0) = true := bne_iff_ne.mpr c6
  by_cases c42 : t386 = true
  ·subst c42
   have H1 : (if t387.toList = ([] : List UInt8) then (some (t388 == t392)) else (some false)) = some r := by rw [if_pos rfl] at H; exact H
   clear H
   have H := H1
   clear H1
   by_cases c43 : t387.toList = ([] : List UInt8)
   ·rw [if_pos c43] at H
    have c43b0 : (t387.toList == ([] : List UInt8)) = true := beq_iff_eq.mpr c43
    have c43b1 : (t387.toList != ([] : List UInt8)) = false := bne_eq_false_iff_eq.mpr c43
    clear c43
    obtain rfl := Option.some.inj H
    go_enter Tryd.func7, Tryd.ntmps7
    go_wp2_with (first | ((with_reducible refine gate_dst (N := 2) rfl ?_); refine box_event ?hg (N := 2) ?hd (cs := #[.int .i64 a0_0, .slice A0_1 l0_1.length c0_1]) (t := 35) ?hr ?_; (case hd => rfl); (case hg => rfl); (case hr => first | (go_simp; done) | (go_simp; rfl)); intro gb385 hg w44 hbox hb; have n0_ := Aside0.mk (below_step bw hb); have n1_ := Aside0.mk (hbox); have n2_ := Aside0.mk ((g1 hg bw : w.heap.size ≤ gb385)); have n3_ := Aside0.mk ((g1 hg bw : w.heap.size ≤ gb385)); clear HB; have HB := n0_; have BK385 := n1_; have GW385 := n2_; have GE385 := n3_; clear n0_ n1_ n2_ n3_; clear hb hbox hg) | ((with_reducible refine gate_callee (f := 8) rfl ?_); refine goesL_ (some 17) rfl rfl Tryd.func8 (by kernel_rfl) rfl #[] rfl am ?_; (with_reducible refine (carillonlaw19_examples.calls  true _ tbk A3.out).mono ?_); rintro e w45 ⟨rfl, hb⟩; refine ⟨_, rfl, ?_⟩; have n0_ := Aside0.mk (nb BK385.out hb); have n1_ := Aside0.mk (below_step bw hb); clear BK385; clear HB; have BK385 := n0_; have HB := n1_; clear n0_ n1_; (try clear hb); (try clear hb2); (try clear hk); (try clear hi); have hcz46_0 := bc2_0 BK385.out; have hcz46_1 := bc2_1 BK385.out; have hfz46_0 := blk_frozen BK385.out 0; have hfz46_1 := blk_frozen BK385.out 1) | ((with_reducible refine gate_callee (f := 19) rfl ?_); refine goesL_ (some 21) rfl rfl Tryd.func19 (by kernel_rfl) rfl #[.agg #[.int .i64 a0_0, .slice A0_1 l0_1.length c0_1], .slice A1 l1.length c1] rfl am ?_; (with_reducible refine (flush_Own.calls k a0_0 _ _ l0_1 _ _ l1 t387 t388 _ ?side1 ?side2 ?side3 ?side4 tbk A4.out).mono ?_); (case side1 => repeat (first | exact (Kd.C_below HR0_1.out HB.out) | (with_reducible refine Kd.C_alloc ?_ _) | (with_reducible refine Kd.C_drewN ?_ _) | (with_reducible refine Kd.C_drew ?_))); (case side2 => exact HC0_1.out); (case side3 => repeat (first | exact (Kd.C_below HR1.out HB.out) | (with_reducible refine Kd.C_alloc ?_ _) | (with_reducible refine Kd.C_drewN ?_ _) | (with_reducible refine Kd.C_drew ?_))); (case side4 => exact HC1.out); rintro e w47 ⟨rfl, hb⟩; refine ⟨_, rfl, ?_⟩; have n0_ := Aside0.mk (nb BK385.out hb); have n1_ := Aside0.mk (below_step bw hb); clear BK385; clear HB; have BK385 := n0_; have HB := n1_; clear n0_ n1_; (try clear hb); (try clear hb2); (try clear hk); (try clear hi)) | ((with_reducible refine gate_callee (f := 10) rfl ?_); refine goesL_ (some 26) rfl rfl Tryd.func10 (by kernel_rfl) rfl #[.slice A1 l1.length c1] rfl am ?_; (with_reducible refine (flush_Longest.calls k (fun k_ => k_ < w.heap.size) _ _ l1 t389 t392 _ ?side1 A5.out).mono ?_); (case side1 => exact Kd.V_mk HC1.out (Kd.F_below (Kd.C_F (Kd.heap_slice 9 Kd.heap_string) HR1.out) bw)); rintro e w48 ⟨v390, rfl, ho0, hb⟩; refine ⟨_, rfl, ?_⟩; have n0_ := Aside0.mk (Kd.R_lower (Kd.R_mono (ok' := fun k_ => True) ho0 (fun _ hk_ => trivial)) (below_size bw)); have n1_ := Aside0.mk (nb BK385.out hb); have n2_ := Aside0.mk (below_step bw hb); clear BK385; clear HB; have HO391 := n0_; have BK385 := n1_; have HB := n2_; clear n0_ n1_ n2_; (try clear hb); (try clear hb2); (try clear hk); (try clear hi); (try clear ho0)))
    go_ret
    exact ⟨er, bw⟩
   ·rw [if_neg c43] at H
    have c43b0 : (t387.toList == ([] : List UInt8)) = false := beq_eq_false_iff_ne.mpr c43
    have c43b1 : (t387.toList != ([] : List UInt8)) = true := bne_iff_ne.mpr c43
    exact absurd ((Option.some.inj H).trans hr_.out) (by decide)
  ·replace c42 := Bool.eq_false_iff.mpr c42
   subst c42
   have H1 : (some false) = some r := by rw [if_neg (show ¬ (false = true) by decide)] at H; exact H
   clear H
   have H := H1
   clear H1
   exact absurd ((Option.some.inj H).trans hr_.out) (by decide)

end Go.Proofs.YtokebimfflobbaaDoor.P
