-- Printed by this session's program wip/xp.py (a turned copy of the kit's printer): functions, their contracts.
import Derived.Test.YtdpogggajdfedaaDoorPx0
import Derived.Test.YtdpogggajdfedaaDoorPx1
import Derived.Test.YtdpogggajdfedaaDoorPx8
import Derived.Test.YtdpogggajdfedaaDoorPx11
import Derived.Test.YtdpogggajdfedaaDoorPx14
import Derived.Test.YtdpogggajdfedaaDoorPx15
import Derived.Test.YtdpogggajdfedaaDoorPx16
namespace Go.Proofs.YtdpogggajdfedaaDoor.P
open Go.RowKit Go.Proofs.YtdpogggajdfedaaDoorW.PrintWords Go.Proofs.YtdpogggajdfedaaDoorW.PrintLast Go.Proofs.YtdpogggajdfedaaDoorW.PrintMore
attribute [local go_sem] max2_int min2_int max_two min_two max_three min_three max_four min_four   -- for this text's walks alone
set_option linter.unusedVariables false
set_option linter.unusedSimpArgs false

attribute [local go_sem high] eqA23
/-! ### carillonlaw09_LinkBytes: function 3 -/
def carillonlaw09_LinkBytes.f (k : Nat) (a0_0 : Int) (a0_1 : Int) (a0_2 : Int) (a0_3 : Int) (a0_4 : ByteArray) (a1 : ByteArray) : Option (Bool) := (carillonlaw09_examples.f).bind fun t287 => ((link_Encode.f k a0_0 a0_1 a0_2 a0_3 a0_4).bind fun bt288 => ((carillonref09_Encode.f k a0_0 a0_1 a0_2 a0_3 a0_4).bind fun bt290 => ((link_Decode.f k a1).bind fun bt292 => ((carillonref09_Decode.f k a1).bind fun bt299 => (if t287 = true then (if bt288.1.toList = bt290.1.toList then (if ((bt288.2 == 0) == bt290.2) = true then (if bt290.2 = true then (if (bt292.1 == bt299.1 && (bt292.2.1 == bt299.2.1 && (bt292.2.2.1 == bt299.2.2.1 && (bt292.2.2.2.1 == bt299.2.2.2.1 && (bt292.2.2.2.2.1.toList == bt299.2.2.2.2.1.toList))))) = true then (some (bt292.2.2.2.2.2 == bt299.2.2.2.2.2)) else (some false)) else (if bt288.2 = 1 then (if (bt292.1 == bt299.1 && (bt292.2.1 == bt299.2.1 && (bt292.2.2.1 == bt299.2.2.1 && (bt292.2.2.2.1 == bt299.2.2.2.1 && (bt292.2.2.2.2.1.toList == bt299.2.2.2.2.1.toList))))) = true then (some (bt292.2.2.2.2.2 == bt299.2.2.2.2.2)) else (some false)) else (some false))) else (some false)) else (some false)) else (some false))))))
theorem carillonlaw09_LinkBytes.mono : ∀ a0 a1 a2 a3 a4 a5 k, LeO (carillonlaw09_LinkBytes.f k a0 a1 a2 a3 a4 a5) (carillonlaw09_LinkBytes.f (k + 1) a0 a1 a2 a3 a4 a5) := by
 intro a0 a1 a2 a3 a4 a5 k
 unfold carillonlaw09_LinkBytes.f
 repeat' first
   | (with_reducible exact carillonref09_Decode.mono _ _)
   | (with_reducible exact carillonref09_Encode.mono _ _ _ _ _ _)
   | (with_reducible exact link_Decode.mono _ _)
   | (with_reducible exact link_Encode.mono _ _ _ _ _ _)
   | (with_reducible exact LeO.refl _)
   | (with_reducible exact LeO.none _)
   | (with_reducible refine LeO.ite ?_ ?_)
   | (with_reducible refine LeO.bind ?_ (fun _ => ?_))
   | exact carillonref09_Decode.mono _ _
   | exact carillonref09_Encode.mono _ _ _ _ _ _
   | exact link_Decode.mono _ _
   | exact link_Encode.mono _ _ _ _ _ _
   | exact LeO.none _
   | refine LeO.ite ?_ ?_
   | refine LeO.bind ?_ (fun _ => ?_)
set_option maxHeartbeats 8000000 in
set_option maxRecDepth 100000 in
theorem carillonlaw09_LinkBytes.calls (k : Nat) (a0_0 : Int) (a0_1 : Int) (a0_2 : Int) (a0_3 : Int) (a0_4 : ByteArray) (a1 : ByteArray) (r : Bool) (w : World) (hr_ : Aside0 (r = true)) (HT_ : TabOk w) (h : carillonlaw09_LinkBytes.f k a0_0 a0_1 a0_2 a0_3 a0_4 a1 = some r) :
  Calls Tryd.prog 3 #[.agg #[.int .i64 a0_0, .int .i64 a0_1, .int .i64 a0_2, .int .i64 a0_3, .string a0_4], .string a1] w fun e w' => e = .returned (.bool r) ∧ Below w.heap.size w w' := by
 have HT := Aside0.mk HT_
 clear HT_
 have hu23 := Tryd.underlying23
 have HB := Aside0.mk (Below.refl w.heap.size w)
 have H : ((carillonlaw09_examples.f).bind fun t287 => ((link_Encode.f k a0_0 a0_1 a0_2 a0_3 a0_4).bind fun bt288 => ((carillonref09_Encode.f k a0_0 a0_1 a0_2 a0_3 a0_4).bind fun bt290 => ((link_Decode.f k a1).bind fun bt292 => ((carillonref09_Decode.f k a1).bind fun bt299 => (if t287 = true then (if bt288.1.toList = bt290.1.toList then (if ((bt288.2 == 0) == bt290.2) = true then (if bt290.2 = true then (if (bt292.1 == bt299.1 && (bt292.2.1 == bt299.2.1 && (bt292.2.2.1 == bt299.2.2.1 && (bt292.2.2.2.1 == bt299.2.2.2.1 && (bt292.2.2.2.2.1.toList == bt299.2.2.2.2.1.toList))))) = true then (some (bt292.2.2.2.2.2 == bt299.2.2.2.2.2)) else (some false)) else (if bt288.2 = 1 then (if (bt292.1 == bt299.1 && (bt292.2.1 == bt299.2.1 && (bt292.2.2.1 == bt299.2.2.1 && (bt292.2.2.2.1 == bt299.2.2.2.1 && (bt292.2.2.2.2.1.toList == bt299.2.2.2.2.1.toList))))) = true then (some (bt292.2.2.2.2.2 == bt299.2.2.2.2.2)) else (some false)) else (some false))) else (some false)) else (some false)) else (some false))))))) = some r := h
 clear h
 replace H := Option.bind_eq_some_iff.mp H
 obtain ⟨t287, A30, H⟩ := H
 replace H : ((link_Encode.f k a0_0 a0_1 a0_2 a0_3 a0_4).bind fun bt288 => ((carillonref09_Encode.f k a0_0 a0_1 a0_2 a0_3 a0_4).bind fun bt290 => ((link_Decode.f k a1).bind fun bt292 => ((carillonref09_Decode.f k a1).bind fun bt299 => (if t287 = true then (if bt288.1.toList = bt290.1.toList then (if ((bt288.2 == 0) == bt290.2) = true then (if bt290.2 = true then (if (bt292.1 == bt299.1 && (bt292.2.1 == bt299.2.1 && (bt292.2.2.1 == bt299.2.2.1 && (bt292.2.2.2.1 == bt299.2.2.2.1 && (bt292.2.2.2.2.1.toList == bt299.2.2.2.2.1.toList))))) = true then (some (bt292.2.2.2.2.2 == bt299.2.2.2.2.2)) else (some false)) else (if bt288.2 = 1 then (if (bt292.1 == bt299.1 && (bt292.2.1 == bt299.2.1 && (bt292.2.2.1 == bt299.2.2.1 && (bt292.2.2.2.1 == bt299.2.2.2.1 && (bt292.2.2.2.2.1.toList == bt299.2.2.2.2.1.toList))))) = true then (some (bt292.2.2.2.2.2 == bt299.2.2.2.2.2)) else (some false)) else (some false))) else (some false)) else (some false)) else (some false)))))) = some r := H
 have A3 := Aside0.mk A30
 clear A30
 replace H := Option.bind_eq_some_iff.mp H
 obtain ⟨⟨t288, t289⟩, A40, H⟩ := H
 replace H : ((carillonref09_Encode.f k a0_0 a0_1 a0_2 a0_3 a0_4).bind fun bt290 => ((link_Decode.f k a1).bind fun bt292 => ((carillonref09_Decode.f k a1).bind fun bt299 => (if t287 = true then (if t288.toList = bt290.1.toList then (if ((t289 == 0) == bt290.2) = true then (if bt290.2 = true then (if (bt292.1 == bt299.1 && (bt292.2.1 == bt299.2.1 && (bt292.2.2.1 == bt299.2.2.1 && (bt292.2.2.2.1 == bt299.2.2.2.1 && (bt292.2.2.2.2.1.toList == bt299.2.2.2.2.1.toList))))) = true then (some (bt292.2.2.2.2.2 == bt299.2.2.2.2.2)) else (some false)) else (if t289 = 1 then (if (bt292.1 == bt299.1 && (bt292.2.1 == bt299.2.1 && (bt292.2.2.1 == bt299.2.2.1 && (bt292.2.2.2.1 == bt299.2.2.2.1 && (bt292.2.2.2.2.1.toList == bt299.2.2.2.2.1.toList))))) = true then (some (bt292.2.2.2.2.2 == bt299.2.2.2.2.2)) else (some false)) else (some false))) else (some false)) else (some false)) else (some false))))) = some r := H
 have A4 := Aside0.mk A40
 clear A40
 replace H := Option.bind_eq_some_iff.mp H
 obtain ⟨⟨t290, t291⟩, A50, H⟩ := H
 replace H : ((link_Decode.f k a1).bind fun bt292 => ((carillonref09_Decode.f k a1).bind fun bt299 => (if t287 = true then (if t288.toList = t290.toList then (if ((t289 == 0) == t291) = true then (if t291 = true then (if (bt292.1 == bt299.1 && (bt292.2.1 == bt299.2.1 && (bt292.2.2.1 == bt299.2.2.1 && (bt292.2.2.2.1 == bt299.2.2.2.1 && (bt292.2.2.2.2.1.toList == bt299.2.2.2.2.1.toList))))) = true then (some (bt292.2.2.2.2.2 == bt299.2.2.2.2.2)) else (some false)) else (if t289 = 1 then (if (bt292.1 == bt299.1 && (bt292.2.1 == bt299.2.1 && (bt292.2.2.1 == bt299.2.2.1 && (bt292.2.2.2.1 == bt299.2.2.2.1 && (bt292.2.2.2.2.1.toList == bt299.2.2.2.2.1.toList))))) = true then (some (bt292.2.2.2.2.2 == bt299.2.2.2.2.2)) else (some false)) else (some false))) else (some false)) else (some false)) else (some false)))) = some r := H
 have A5 := Aside0.mk A50
 clear A50
 replace H := Option.bind_eq_some_iff.mp H
 obtain ⟨⟨t292, t293, t294, t295, t296, t297⟩, A60, H⟩ := H
 replace H : ((carillonref09_Decode.f k a1).bind fun bt299 => (if t287 = true then (if t288.toList = t290.toList then (if ((t289 == 0) == t291) = true then (if t291 = true then (if (t292 == bt299.1 && (t293 == bt299.2.1 && (t294 == bt299.2.2.1 && (t295 == bt299.2.2.2.1 && (t296.toList == bt299.2.2.2.2.1.toList))))) = true then (some (t297 == bt299.2.2.2.2.2)) else (some false)) else (if t289 = 1 then (if (t292 == bt299.1 && (t293 == bt299.2.1 && (t294 == bt299.2.2.1 && (t295 == bt299.2.2.2.1 && (t296.toList == bt299.2.2.2.2.1.toList))))) = true then (some (t297 == bt299.2.2.2.2.2)) else (some false)) else (some false))) else (some false)) else (some false)) else (some false))) = some r := H
 have A6 := Aside0.mk A60
 clear A60
 replace H := Option.bind_eq_some_iff.mp H
 obtain ⟨⟨t299, t300, t301, t302, t303, t304⟩, A70, H⟩ := H
 replace H : (if t287 = true then (if t288.toList = t290.toList then (if ((t289 == 0) == t291) = true then (if t291 = true then (if (t292 == t299 && (t293 == t300 && (t294 == t301 && (t295 == t302 && (t296.toList == t303.toList))))) = true then (some (t297 == t304)) else (some false)) else (if t289 = 1 then (if (t292 == t299 && (t293 == t300 && (t294 == t301 && (t295 == t302 && (t296.toList == t303.toList))))) = true then (some (t297 == t304)) else (some false)) else (some false))) else (some false)) else (some false)) else (some false)) = some r := H
 have A7 := Aside0.mk A70
 clear A70
 by_cases c8 : t287 = true; rotate_left
 ·replace c8 := Bool.eq_false_iff.mpr c8
  subst c8
  have H1 : (some false) = some r := by rw [if_neg (show ¬ (false = true) by decide)] at H; exact H
  clear H
  have H := H1
  clear H1
  exact absurd ((Option.some.inj H).trans hr_.out) (by decide)
 subst c8
 have H1 : (if t288.toList = t290.toList then (if ((t289 == 0) == t291) = true then (if t291 = true then (if (t292 == t299 && (t293 == t300 && (t294 == t301 && (t295 == t302 && (t296.toList == t303.toList))))) = true then (some (t297 == t304)) else (some false)) else (if t289 = 1 then (if (t292 == t299 && (t293 == t300 && (t294 == t301 && (t295 == t302 && (t296.toList == t303.toList))))) = true then (some (t297 == t304)) else (some false)) else (some false))) else (some false)) else (some false)) = some r := by rw [if_pos rfl] at H; exact H
 clear H
 have H := H1
 clear H1
 by_cases c9 : t288.toList = t290.toList; rotate_left
 ·rw [if_neg c9] at H
  have c9b0 : (t288.toList == t290.toList) = false := beq_eq_false_iff_ne.mpr c9
  have c9b1 : (t288.toList != t290.toList) = true := bne_iff_ne.mpr c9
  exact absurd ((Option.some.inj H).trans hr_.out) (by decide)
 rw [if_pos c9] at H
 have c9b0 : (t288.toList == t290.toList) = true := beq_iff_eq.mpr c9
 have c9b1 : (t288.toList != t290.toList) = false := bne_eq_false_iff_eq.mpr c9
 clear c9
 by_cases c10 : ((t289 == 0) == t291) = true; rotate_left
 ·rw [if_neg c10] at H
  have c10b0 : ((t289 == 0) == t291) = false := by simpa using c10
  (try (have c10b1 : decide ((t289 == 0) = t291) = false := by simpa using c10))
  (try (have c10b2 : ((t289 == 0) == t291) = false := by simpa using c10))
  (try (have c10b3 : ¬ ((t289 == 0) = t291) := by simpa using c10))
  clear c10
  exact absurd ((Option.some.inj H).trans hr_.out) (by decide)
 rw [if_pos c10] at H
 have c10b0 : ((t289 == 0) == t291) = true := c10
 (try (have c10b1 : decide ((t289 == 0) = t291) = true := by simpa using c10))
 (try (have c10b2 : ((t289 == 0) == t291) = true := by simpa using c10))
 clear c10
 by_cases c11 : t291 = true
 ·subst c11
  have H1 : (if (t292 == t299 && (t293 == t300 && (t294 == t301 && (t295 == t302 && (t296.toList == t303.toList))))) = true then (some (t297 == t304)) else (some false)) = some r := by rw [if_pos rfl] at H; exact H
  clear H
  have H := H1
  clear H1
  by_cases c12 : (t292 == t299 && (t293 == t300 && (t294 == t301 && (t295 == t302 && (t296.toList == t303.toList))))) = true; rotate_left
  ·rw [if_neg c12] at H
   have c12b0 : (t292 == t299 && (t293 == t300 && (t294 == t301 && (t295 == t302 && (t296.toList == t303.toList))))) = false := by simpa using c12
   (try (have c12b1 : decide (t292 = t299 && (t293 == t300 && (t294 == t301 && (t295 == t302 && (t296.toList == t303.toList))))) = false := by simpa using c12))
   (try (have c12b2 : (t292 == t299 && (t293 == t300 && (t294 == t301 && (t295 == t302 && (t296.toList == t303.toList))))) = false := by simpa using c12))
   (try (have c12b3 : ¬ (t292 = t299 && (t293 == t300 && (t294 == t301 && (t295 == t302 && (t296.toList == t303.toList))))) := by simpa using c12))
   (try (have c12b4 : (!(t292 == t299) || (!(t293 == t300) || (!(t294 == t301) || (!(t295 == t302) || (!(t296.toList == t303.toList)))))) = true := by have e_ : (!(t292 == t299) || (!(t293 == t300) || (!(t294 == t301) || (!(t295 == t302) || (!(t296.toList == t303.toList)))))) = (!(t292 == t299 && (t293 == t300 && (t294 == t301 && (t295 == t302 && (t296.toList == t303.toList)))))) := (by simp only [Bool.not_or, Bool.not_and, Bool.not_not]); rw [e_]; first | (simp only [c12, Bool.not_true]; done) | (simp only [Bool.eq_false_iff.mpr c12, Bool.not_false]; done)))
   clear c12
   exact absurd ((Option.some.inj H).trans hr_.out) (by decide)
  rw [if_pos c12] at H
  have c12b0 : (t292 == t299 && (t293 == t300 && (t294 == t301 && (t295 == t302 && (t296.toList == t303.toList))))) = true := c12
  (try (have c12b1 : decide (t292 = t299 && (t293 == t300 && (t294 == t301 && (t295 == t302 && (t296.toList == t303.toList))))) = true := by simpa using c12))
  (try (have c12b2 : (t292 == t299 && (t293 == t300 && (t294 == t301 && (t295 == t302 && (t296.toList == t303.toList))))) = true := by simpa using c12))
  (try (have c12b3 : (!(t292 == t299) || (!(t293 == t300) || (!(t294 == t301) || (!(t295 == t302) || (!(t296.toList == t303.toList)))))) = false := by have e_ : (!(t292 == t299) || (!(t293 == t300) || (!(t294 == t301) || (!(t295 == t302) || (!(t296.toList == t303.toList)))))) = (!(t292 == t299 && (t293 == t300 && (t294 == t301 && (t295 == t302 && (t296.toList == t303.toList)))))) := (by simp only [Bool.not_or, Bool.not_and, Bool.not_not]); rw [e_]; first | (simp only [c12, Bool.not_true]; done) | (simp only [Bool.eq_false_iff.mpr c12, Bool.not_false]; done)))
  clear c12
  obtain rfl := Option.some.inj H
  go_enter Tryd.func3, Tryd.ntmps3
  go_wp2_with (first | ((with_reducible refine gate_dst (N := 2) rfl ?_); refine box_event ?hg (N := 2) ?hd (cs := #[.int .i64 a0_0, .int .i64 a0_1, .int .i64 a0_2, .int .i64 a0_3, .string a0_4]) (t := 23) ?hr ?_; (case hd => rfl); (case hg => rfl); (case hr => first | (go_simp; done) | (go_simp; rfl)); intro ac hg w13 hbox hb; have n0_ := Aside0.mk (below_step bw hb); have n1_ := Aside0.mk (hbox); have n2_ := Aside0.mk ((g1 hg bw : w.heap.size ≤ ac)); have n3_ := Aside0.mk ((g1 hg bw : w.heap.size ≤ ac)); clear HB; have HB := n0_; have aa := n1_; have GW286 := n2_; have GE286 := n3_; clear n0_ n1_ n2_ n3_; clear hb hbox hg) | ((with_reducible refine gate_callee (f := 5) rfl ?_); refine goesL_ (some 14) rfl rfl Tryd.func5 (by kernel_rfl) rfl #[] rfl am ?_; (with_reducible refine (carillonlaw09_examples.calls  true _ A3.out).mono ?_); rintro e w14 ⟨rfl, hb⟩; refine ⟨_, rfl, ?_⟩; have n0_ := Aside0.mk (nb aa.out hb); have n1_ := Aside0.mk (below_step bw hb); clear aa; clear HB; have aa := n0_; have HB := n1_; clear n0_ n1_; (try clear hb); obtain ⟨hcz15_0, hcz15_1, hcz15_2, hcz15_3, hcz15_4, hfz15_0, hfz15_1, hfz15_2, hfz15_3, hfz15_4⟩ := bx5 aa.out) | ((with_reducible refine gate_callee (f := 6) rfl ?_); refine goesL_ (some 17) rfl rfl Tryd.func6 (by kernel_rfl) rfl #[.agg #[.int .i64 a0_0, .int .i64 a0_1, .int .i64 a0_2, .int .i64 a0_3, .string a0_4]] rfl am ?_; (with_reducible refine (link_Encode.calls k a0_0 a0_1 a0_2 a0_3 a0_4 t288 t289 _ tbk A4.out).mono ?_); rintro e w16 ⟨rfl, hb⟩; refine ⟨_, rfl, ?_⟩; have n0_ := Aside0.mk (nb aa.out hb); have n1_ := Aside0.mk (below_step bw hb); clear aa; clear HB; have aa := n0_; have HB := n1_; clear n0_ n1_; (try clear hb); obtain ⟨hcz17_0, hcz17_1, hcz17_2, hcz17_3, hcz17_4, hfz17_0, hfz17_1, hfz17_2, hfz17_3, hfz17_4⟩ := bx5 aa.out) | ((with_reducible refine gate_callee (f := 7) rfl ?_); refine goesL_ (some 22) rfl rfl Tryd.func7 (by kernel_rfl) rfl #[.agg #[.int .i64 a0_0, .int .i64 a0_1, .int .i64 a0_2, .int .i64 a0_3, .string a0_4]] rfl am ?_; (with_reducible refine (carillonref09_Encode.calls k a0_0 a0_1 a0_2 a0_3 a0_4 t290 true _ A5.out).mono ?_); rintro e w18 ⟨rfl, hb⟩; refine ⟨_, rfl, ?_⟩; have n0_ := Aside0.mk (nb aa.out hb); have n1_ := Aside0.mk (below_step bw hb); clear aa; clear HB; have aa := n0_; have HB := n1_; clear n0_ n1_; (try clear hb)) | ((with_reducible refine gate_callee (f := 8) rfl ?_); refine goesL_ (some 27) rfl rfl Tryd.func8 (by kernel_rfl) rfl #[.string a1] rfl am ?_; (with_reducible refine (link_Decode.calls k a1 t292 t293 t294 t295 t296 t297 _ tbk A6.out).mono ?_); rintro e w19 ⟨rfl, hb⟩; refine ⟨_, rfl, ?_⟩; have n0_ := Aside0.mk (nb aa.out hb); have n1_ := Aside0.mk (below_step bw hb); clear aa; clear HB; have aa := n0_; have HB := n1_; clear n0_ n1_; (try clear hb)) | ((with_reducible refine gate_dst (N := 10) rfl ?_); refine box_event ?hg (N := 10) ?hd (cs := #[.int .i64 0, .int .i64 0, .int .i64 0, .int .i64 0, .string (⟨#[]⟩ : ByteArray)]) (t := 23) ?hr ?_; (case hd => rfl); (case hg => rfl); (case hr => first | (go_simp; done) | (go_simp; rfl)); intro ad hg w20 hbox hb; have n0_ := Aside0.mk (nb aa.out hb); have n1_ := Aside0.mk (below_step bw hb); have n2_ := Aside0.mk (hbox); have n3_ := Aside0.mk ((g1 hg bw : w.heap.size ≤ ad)); have n4_ := Aside0.mk ((g1 hg bw : w.heap.size ≤ ad)); have n5_ := Aside0.mk ((n1 hg aa.out : ac ≠ ad)); have n6_ := Aside0.mk ((n2 hg aa.out : ad ≠ ac)); clear aa; clear HB; have aa := n0_; have HB := n1_; have ab := n2_; have GW298 := n3_; have GE298 := n4_; have ae := n5_; have ag := n6_; clear n0_ n1_ n2_ n3_ n4_ n5_ n6_; clear hb hbox hg; have hnb21 := ag.out; have hnc21 := ae.out; obtain ⟨hcz22_0, hcz22_1, hcz22_2, hcz22_3, hcz22_4, hfz22_0, hfz22_1, hfz22_2, hfz22_3, hfz22_4⟩ := bx5 ab.out) | ((with_reducible refine gate_callee (f := 9) rfl ?_); refine goesL_ (some 32) rfl rfl Tryd.func9 (by kernel_rfl) rfl #[.string a1] rfl am ?_; (with_reducible refine (carillonref09_Decode.calls k a1 t299 t300 t301 t302 t303 t304 _ A7.out).mono ?_); rintro e w23 ⟨rfl, hb⟩; refine ⟨_, rfl, ?_⟩; have n0_ := Aside0.mk (blk_below (g := ac) (o := .cells #[.int .i64 a0_0, .int .i64 a0_1, .int .i64 a0_2, .int .i64 a0_3, .string a0_4] 23 (0, 0)) (by (with_reducible repeat (first | refine blk_drewN ?_ _ | refine blk_drew ?_ | refine blk_alloc ?_ _ | refine blk_far ?_ ae.out _)); exact aa.out) hb); have n1_ := Aside0.mk (blk_below (g := ad) (o := .cells #[.int .i64 t292, .int .i64 t293, .int .i64 t294, .int .i64 t295, .string t296] 23 (0, 0)) (by (with_reducible repeat (first | refine blk_drewN ?_ _ | refine blk_drew ?_ | refine blk_alloc ?_ _)); refine blk_put (cs := #[.int .i64 t292, .int .i64 t293, .int .i64 t294, .int .i64 t295, .string (⟨#[]⟩ : ByteArray)]) ?_ 4 _ rfl; (with_reducible repeat (first | refine blk_drewN ?_ _ | refine blk_drew ?_ | refine blk_alloc ?_ _)); refine blk_put (cs := #[.int .i64 t292, .int .i64 t293, .int .i64 t294, .int .i64 0, .string (⟨#[]⟩ : ByteArray)]) ?_ 3 _ rfl; (with_reducible repeat (first | refine blk_drewN ?_ _ | refine blk_drew ?_ | refine blk_alloc ?_ _)); refine blk_put (cs := #[.int .i64 t292, .int .i64 t293, .int .i64 0, .int .i64 0, .string (⟨#[]⟩ : ByteArray)]) ?_ 2 _ rfl; (with_reducible repeat (first | refine blk_drewN ?_ _ | refine blk_drew ?_ | refine blk_alloc ?_ _)); refine blk_put (cs := #[.int .i64 t292, .int .i64 0, .int .i64 0, .int .i64 0, .string (⟨#[]⟩ : ByteArray)]) ?_ 1 _ rfl; (with_reducible repeat (first | refine blk_drewN ?_ _ | refine blk_drew ?_ | refine blk_alloc ?_ _)); refine blk_put (cs := #[.int .i64 0, .int .i64 0, .int .i64 0, .int .i64 0, .string (⟨#[]⟩ : ByteArray)]) ?_ 0 _ rfl; (with_reducible repeat (first | refine blk_drewN ?_ _ | refine blk_drew ?_ | refine blk_alloc ?_ _)); exact ab.out) hb); have n2_ := Aside0.mk (below_step bw hb); clear aa; clear ab; clear HB; have aa := n0_; have ab := n1_; have HB := n2_; clear n0_ n1_ n2_; (try clear hb)) | ((with_reducible refine gate_dst (N := 12) rfl ?_); refine box_event ?hg (N := 12) ?hd (cs := #[.int .i64 0, .int .i64 0, .int .i64 0, .int .i64 0, .string (⟨#[]⟩ : ByteArray)]) (t := 23) ?hr ?_; (case hd => rfl); (case hg => rfl); (case hr => first | (go_simp; done) | (go_simp; rfl)); intro af hg w24 hbox hb; have n0_ := Aside0.mk (nb aa.out hb); have n1_ := Aside0.mk (nb ab.out hb); have n2_ := Aside0.mk (below_step bw hb); have n3_ := Aside0.mk (hbox); have n4_ := Aside0.mk ((g1 hg bw : w.heap.size ≤ af)); have n5_ := Aside0.mk ((g1 hg bw : w.heap.size ≤ af)); have n6_ := Aside0.mk ((n1 hg aa.out : ac ≠ af)); have n7_ := Aside0.mk ((n2 hg aa.out : af ≠ ac)); have n8_ := Aside0.mk ((n1 hg ab.out : ad ≠ af)); have n9_ := Aside0.mk ((n2 hg ab.out : af ≠ ad)); clear aa; clear ab; clear HB; have aa := n0_; have ab := n1_; have HB := n2_; have al := n3_; have GW305 := n4_; have GE305 := n5_; have ah := n6_; have ai := n7_; have aj := n8_; have ak := n9_; clear n0_ n1_ n2_ n3_ n4_ n5_ n6_ n7_ n8_ n9_; clear hb hbox hg; have hnb25 := ai.out; have hnc25 := ah.out; have hnb26 := ak.out; have hnc26 := aj.out; obtain ⟨hcz27_0, hcz27_1, hcz27_2, hcz27_3, hcz27_4, hfz27_0, hfz27_1, hfz27_2, hfz27_3, hfz27_4⟩ := bx5 al.out; obtain ⟨hcz28_0, hcz28_1, hcz28_2, hcz28_3, hcz28_4, hfz28_0, hfz28_1, hfz28_2, hfz28_3, hfz28_4⟩ := bx5 ab.out))
  go_ret
  exact ⟨er, bw⟩
 replace c11 := Bool.eq_false_iff.mpr c11
 subst c11
 have H1 : (if t289 = 1 then (if (t292 == t299 && (t293 == t300 && (t294 == t301 && (t295 == t302 && (t296.toList == t303.toList))))) = true then (some (t297 == t304)) else (some false)) else (some false)) = some r := by rw [if_neg (show ¬ (false = true) by decide)] at H; exact H
 clear H
 have H := H1
 clear H1
 by_cases c29 : t289 = 1; rotate_left
 ·rw [if_neg c29] at H
  have c29b0 : (t289 == 1) = false := beq_eq_false_iff_ne.mpr c29
  have c29b1 : (t289 != 1) = true := bne_iff_ne.mpr c29
  exact absurd ((Option.some.inj H).trans hr_.out) (by decide)
 rw [if_pos c29] at H
 have c29b0 : (t289 == 1) = true := beq_iff_eq.mpr c29
 have c29b1 : (t289 != 1) = false := bne_eq_false_iff_eq.mpr c29
 clear c29
 by_cases c30 : (t292 == t299 && (t293 == t300 && (t294 == t301 && (t295 == t302 && (t296.toList == t303.toList))))) = true; rotate_left
 ·rw [if_neg c30] at H
  have c30b0 : (t292 == t299 && (t293 == t300 && (t294 == t301 && (t295 == t302 && (t296.toList == t303.toList))))) = false := by simpa using c30
  (try (have c30b1 : decide (t292 = t299 && (t293 == t300 && (t294 == t301 && (t295 == t302 && (t296.toList == t303.toList))))) = false := by simpa using c30))
  (try (have c30b2 : (t292 == t299 && (t293 == t300 && (t294 == t301 && (t295 == t302 && (t296.toList == t303.toList))))) = false := by simpa using c30))
  (try (have c30b3 : ¬ (t292 = t299 && (t293 == t300 && (t294 == t301 && (t295 == t302 && (t296.toList == t303.toList))))) := by simpa using c30))
  (try (have c30b4 : (!(t292 == t299) || (!(t293 == t300) || (!(t294 == t301) || (!(t295 == t302) || (!(t296.toList == t303.toList)))))) = true := by have e_ : (!(t292 == t299) || (!(t293 == t300) || (!(t294 == t301) || (!(t295 == t302) || (!(t296.toList == t303.toList)))))) = (!(t292 == t299 && (t293 == t300 && (t294 == t301 && (t295 == t302 && (t296.toList == t303.toList)))))) := (by simp only [Bool.not_or, Bool.not_and, Bool.not_not]); rw [e_]; first | (simp only [c30, Bool.not_true]; done) | (simp only [Bool.eq_false_iff.mpr c30, Bool.not_false]; done)))
  clear c30
  exact absurd ((Option.some.inj H).trans hr_.out) (by decide)
 rw [if_pos c30] at H
 have c30b0 : (t292 == t299 && (t293 == t300 && (t294 == t301 && (t295 == t302 && (t296.toList == t303.toList))))) = true := c30
 (try (have c30b1 : decide (t292 = t299 && (t293 == t300 && (t294 == t301 && (t295 == t302 && (t296.toList == t303.toList))))) = true := by simpa using c30))
 (try (have c30b2 : (t292 == t299 && (t293 == t300 && (t294 == t301 && (t295 == t302 && (t296.toList == t303.toList))))) = true := by simpa using c30))
 (try (have c30b3 : (!(t292 == t299) || (!(t293 == t300) || (!(t294 == t301) || (!(t295 == t302) || (!(t296.toList == t303.toList)))))) = false := by have e_ : (!(t292 == t299) || (!(t293 == t300) || (!(t294 == t301) || (!(t295 == t302) || (!(t296.toList == t303.toList)))))) = (!(t292 == t299 && (t293 == t300 && (t294 == t301 && (t295 == t302 && (t296.toList == t303.toList)))))) := (by simp only [Bool.not_or, Bool.not_and, Bool.not_not]); rw [e_]; first | (simp only [c30, Bool.not_true]; done) | (simp only [Bool.eq_false_iff.mpr c30, Bool.not_false]; done)))
 clear c30
 obtain rfl := Option.some.inj H
 go_enter Tryd.func3, Tryd.ntmps3
 go_wp2_with (first | ((with_reducible refine gate_dst (N := 2) rfl ?_); refine box_event ?hg (N := 2) ?hd (cs := #[.int .i64 a0_0, .int .i64 a0_1, .int .i64 a0_2, .int .i64 a0_3, .string a0_4]) (t := 23) ?hr ?_; (case hd => rfl); (case hg => rfl); (case hr => first | (go_simp; done) | (go_simp; rfl)); intro ac hg w31 hbox hb; have n0_ := Aside0.mk (below_step bw hb); have n1_ := Aside0.mk (hbox); have n2_ := Aside0.mk ((g1 hg bw : w.heap.size ≤ ac)); have n3_ := Aside0.mk ((g1 hg bw : w.heap.size ≤ ac)); clear HB; have HB := n0_; have aa := n1_; have GW286 := n2_; have GE286 := n3_; clear n0_ n1_ n2_ n3_; clear hb hbox hg) | ((with_reducible refine gate_callee (f := 5) rfl ?_); refine goesL_ (some 14) rfl rfl Tryd.func5 (by kernel_rfl) rfl #[] rfl am ?_; (with_reducible refine (carillonlaw09_examples.calls  true _ A3.out).mono ?_); rintro e w32 ⟨rfl, hb⟩; refine ⟨_, rfl, ?_⟩; have n0_ := Aside0.mk (nb aa.out hb); have n1_ := Aside0.mk (below_step bw hb); clear aa; clear HB; have aa := n0_; have HB := n1_; clear n0_ n1_; (try clear hb); obtain ⟨hcz33_0, hcz33_1, hcz33_2, hcz33_3, hcz33_4, hfz33_0, hfz33_1, hfz33_2, hfz33_3, hfz33_4⟩ := bx5 aa.out) | ((with_reducible refine gate_callee (f := 6) rfl ?_); refine goesL_ (some 17) rfl rfl Tryd.func6 (by kernel_rfl) rfl #[.agg #[.int .i64 a0_0, .int .i64 a0_1, .int .i64 a0_2, .int .i64 a0_3, .string a0_4]] rfl am ?_; (with_reducible refine (link_Encode.calls k a0_0 a0_1 a0_2 a0_3 a0_4 t288 t289 _ tbk A4.out).mono ?_); rintro e w34 ⟨rfl, hb⟩; refine ⟨_, rfl, ?_⟩; have n0_ := Aside0.mk (nb aa.out hb); have n1_ := Aside0.mk (below_step bw hb); clear aa; clear HB; have aa := n0_; have HB := n1_; clear n0_ n1_; (try clear hb); obtain ⟨hcz35_0, hcz35_1, hcz35_2, hcz35_3, hcz35_4, hfz35_0, hfz35_1, hfz35_2, hfz35_3, hfz35_4⟩ := bx5 aa.out) | ((with_reducible refine gate_callee (f := 7) rfl ?_); refine goesL_ (some 22) rfl rfl Tryd.func7 (by kernel_rfl) rfl #[.agg #[.int .i64 a0_0, .int .i64 a0_1, .int .i64 a0_2, .int .i64 a0_3, .string a0_4]] rfl am ?_; (with_reducible refine (carillonref09_Encode.calls k a0_0 a0_1 a0_2 a0_3 a0_4 t290 false _ A5.out).mono ?_); rintro e w36 ⟨rfl, hb⟩; refine ⟨_, rfl, ?_⟩; have n0_ := Aside0.mk (nb aa.out hb); have n1_ := Aside0.mk (below_step bw hb); clear aa; clear HB; have aa := n0_; have HB := n1_; clear n0_ n1_; (try clear hb)) | ((with_reducible refine gate_callee (f := 8) rfl ?_); refine goesL_ (some 27) rfl rfl Tryd.func8 (by kernel_rfl) rfl #[.string a1] rfl am ?_; (with_reducible refine (link_Decode.calls k a1 t292 t293 t294 t295 t296 t297 _ tbk A6.out).mono ?_); rintro e w37 ⟨rfl, hb⟩; refine ⟨_, rfl, ?_⟩; have n0_ := Aside0.mk (nb aa.out hb); have n1_ := Aside0.mk (below_step bw hb); clear aa; clear HB; have aa := n0_; have HB := n1_; clear n0_ n1_; (try clear hb)) | ((with_reducible refine gate_dst (N := 10) rfl ?_); refine box_event ?hg (N := 10) ?hd (cs := #[.int .i64 0, .int .i64 0, .int .i64 0, .int .i64 0, .string (⟨#[]⟩ : ByteArray)]) (t := 23) ?hr ?_; (case hd => rfl); (case hg => rfl); (case hr => first | (go_simp; done) | (go_simp; rfl)); intro ad hg w38 hbox hb; have n0_ := Aside0.mk (nb aa.out hb); have n1_ := Aside0.mk (below_step bw hb); have n2_ := Aside0.mk (hbox); have n3_ := Aside0.mk ((g1 hg bw : w.heap.size ≤ ad)); have n4_ := Aside0.mk ((g1 hg bw : w.heap.size ≤ ad)); have n5_ := Aside0.mk ((n1 hg aa.out : ac ≠ ad)); have n6_ := Aside0.mk ((n2 hg aa.out : ad ≠ ac)); clear aa; clear HB; have aa := n0_; have HB := n1_; have ab := n2_; have GW298 := n3_; have GE298 := n4_; have ae := n5_; have ag := n6_; clear n0_ n1_ n2_ n3_ n4_ n5_ n6_; clear hb hbox hg; have hnb39 := ag.out; have hnc39 := ae.out; obtain ⟨hcz40_0, hcz40_1, hcz40_2, hcz40_3, hcz40_4, hfz40_0, hfz40_1, hfz40_2, hfz40_3, hfz40_4⟩ := bx5 ab.out) | ((with_reducible refine gate_callee (f := 9) rfl ?_); refine goesL_ (some 32) rfl rfl Tryd.func9 (by kernel_rfl) rfl #[.string a1] rfl am ?_; (with_reducible refine (carillonref09_Decode.calls k a1 t299 t300 t301 t302 t303 t304 _ A7.out).mono ?_); rintro e w41 ⟨rfl, hb⟩; refine ⟨_, rfl, ?_⟩; have n0_ := Aside0.mk (blk_below (g := ac) (o := .cells #[.int .i64 a0_0, .int .i64 a0_1, .int .i64 a0_2, .int .i64 a0_3, .string a0_4] 23 (0, 0)) (by (with_reducible repeat (first | refine blk_drewN ?_ _ | refine blk_drew ?_ | refine blk_alloc ?_ _ | refine blk_far ?_ ae.out _)); exact aa.out) hb); have n1_ := Aside0.mk (blk_below (g := ad) (o := .cells #[.int .i64 t292, .int .i64 t293, .int .i64 t294, .int .i64 t295, .string t296] 23 (0, 0)) (by (with_reducible repeat (first | refine blk_drewN ?_ _ | refine blk_drew ?_ | refine blk_alloc ?_ _)); refine blk_put (cs := #[.int .i64 t292, .int .i64 t293, .int .i64 t294, .int .i64 t295, .string (⟨#[]⟩ : ByteArray)]) ?_ 4 _ rfl; (with_reducible repeat (first | refine blk_drewN ?_ _ | refine blk_drew ?_ | refine blk_alloc ?_ _)); refine blk_put (cs := #[.int .i64 t292, .int .i64 t293, .int .i64 t294, .int .i64 0, .string (⟨#[]⟩ : ByteArray)]) ?_ 3 _ rfl; (with_reducible repeat (first | refine blk_drewN ?_ _ | refine blk_drew ?_ | refine blk_alloc ?_ _)); refine blk_put (cs := #[.int .i64 t292, .int .i64 t293, .int .i64 0, .int .i64 0, .string (⟨#[]⟩ : ByteArray)]) ?_ 2 _ rfl; (with_reducible repeat (first | refine blk_drewN ?_ _ | refine blk_drew ?_ | refine blk_alloc ?_ _)); refine blk_put (cs := #[.int .i64 t292, .int .i64 0, .int .i64 0, .int .i64 0, .string (⟨#[]⟩ : ByteArray)]) ?_ 1 _ rfl; (with_reducible repeat (first | refine blk_drewN ?_ _ | refine blk_drew ?_ | refine blk_alloc ?_ _)); refine blk_put (cs := #[.int .i64 0, .int .i64 0, .int .i64 0, .int .i64 0, .string (⟨#[]⟩ : ByteArray)]) ?_ 0 _ rfl; (with_reducible repeat (first | refine blk_drewN ?_ _ | refine blk_drew ?_ | refine blk_alloc ?_ _)); exact ab.out) hb); have n2_ := Aside0.mk (below_step bw hb); clear aa; clear ab; clear HB; have aa := n0_; have ab := n1_; have HB := n2_; clear n0_ n1_ n2_; (try clear hb)) | ((with_reducible refine gate_dst (N := 12) rfl ?_); refine box_event ?hg (N := 12) ?hd (cs := #[.int .i64 0, .int .i64 0, .int .i64 0, .int .i64 0, .string (⟨#[]⟩ : ByteArray)]) (t := 23) ?hr ?_; (case hd => rfl); (case hg => rfl); (case hr => first | (go_simp; done) | (go_simp; rfl)); intro af hg w42 hbox hb; have n0_ := Aside0.mk (nb aa.out hb); have n1_ := Aside0.mk (nb ab.out hb); have n2_ := Aside0.mk (below_step bw hb); have n3_ := Aside0.mk (hbox); have n4_ := Aside0.mk ((g1 hg bw : w.heap.size ≤ af)); have n5_ := Aside0.mk ((g1 hg bw : w.heap.size ≤ af)); have n6_ := Aside0.mk ((n1 hg aa.out : ac ≠ af)); have n7_ := Aside0.mk ((n2 hg aa.out : af ≠ ac)); have n8_ := Aside0.mk ((n1 hg ab.out : ad ≠ af)); have n9_ := Aside0.mk ((n2 hg ab.out : af ≠ ad)); clear aa; clear ab; clear HB; have aa := n0_; have ab := n1_; have HB := n2_; have al := n3_; have GW305 := n4_; have GE305 := n5_; have ah := n6_; have ai := n7_; have aj := n8_; have ak := n9_; clear n0_ n1_ n2_ n3_ n4_ n5_ n6_ n7_ n8_ n9_; clear hb hbox hg; have hnb43 := ai.out; have hnc43 := ah.out; have hnb44 := ak.out; have hnc44 := aj.out; obtain ⟨hcz45_0, hcz45_1, hcz45_2, hcz45_3, hcz45_4, hfz45_0, hfz45_1, hfz45_2, hfz45_3, hfz45_4⟩ := bx5 al.out; obtain ⟨hcz46_0, hcz46_1, hcz46_2, hcz46_3, hcz46_4, hfz46_0, hfz46_1, hfz46_2, hfz46_3, hfz46_4⟩ := bx5 ab.out))
 go_ret
 exact ⟨er, bw⟩

end Go.Proofs.YtdpogggajdfedaaDoor.P
