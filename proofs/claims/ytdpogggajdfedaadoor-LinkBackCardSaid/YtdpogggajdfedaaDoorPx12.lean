-- Printed by this session's program wip/xp.py (a turned copy of the kit's printer): functions, their contracts.
import Derived.Test.YtdpogggajdfedaaDoorPx0
import Derived.Test.YtdpogggajdfedaaDoorPx1
import Derived.Test.YtdpogggajdfedaaDoorPx8
import Derived.Test.YtdpogggajdfedaaDoorPx14
import Derived.Test.YtdpogggajdfedaaDoorPx15
namespace Go.Proofs.YtdpogggajdfedaaDoor.P
open Go.RowKit Go.Proofs.YtdpogggajdfedaaDoorW.PrintWords Go.Proofs.YtdpogggajdfedaaDoorW.PrintLast Go.Proofs.YtdpogggajdfedaaDoorW.PrintMore
attribute [local go_sem] max2_int min2_int max_two min_two max_three min_three max_four min_four   -- for this text's walks alone
set_option linter.unusedVariables false
set_option linter.unusedSimpArgs false

attribute [local go_sem high] eqA23
/-! ### carillonlaw09_LinkBack: function 4 -/
def carillonlaw09_LinkBack.f (k : Nat) (a0_0 : Int) (a0_1 : Int) (a0_2 : Int) (a0_3 : Int) (a0_4 : ByteArray) (a1 : ByteArray) : Option (Bool) := (carillonlaw09_examples.f).bind fun t307 => ((link_Encode.f k a0_0 a0_1 a0_2 a0_3 a0_4).bind fun bt308 => (if bt308.2 = 0 then ((link_Decode.f k bt308.1).bind fun bt310 => (if (!(bt310.1 == a0_0) || (!(bt310.2.1 == a0_1) || (!(bt310.2.2.1 == a0_2) || (!(bt310.2.2.2.1 == a0_3) || (!(bt310.2.2.2.2.1.toList == a0_4.toList)))))) = true then (some false) else (if bt310.2.2.2.2.2 = 0 then ((link_Decode.f k a1).bind fun bt317 => (if bt317.2.2.2.2.2 = 0 then ((link_Encode.f k bt317.1 bt317.2.1 bt317.2.2.1 bt317.2.2.2.1 bt317.2.2.2.2.1).bind fun bt324 => (if t307 = true then (if bt324.2 = 0 then (some (bt324.1.toList == a1.toList)) else (some false)) else (some false))) else (if t307 = true then (some (bt317.1 == 0 && (bt317.2.1 == 0 && (bt317.2.2.1 == 0 && (bt317.2.2.2.1 == 0 && (bt317.2.2.2.2.1.toList == ([] : List UInt8))))))) else (some false)))) else (some false)))) else ((link_Decode.f k a1).bind fun bt326 => (if bt326.2.2.2.2.2 = 0 then ((link_Encode.f k bt326.1 bt326.2.1 bt326.2.2.1 bt326.2.2.2.1 bt326.2.2.2.2.1).bind fun bt333 => (if t307 = true then (if bt333.2 = 0 then (some (bt333.1.toList == a1.toList)) else (some false)) else (some false))) else (if t307 = true then (some (bt326.1 == 0 && (bt326.2.1 == 0 && (bt326.2.2.1 == 0 && (bt326.2.2.2.1 == 0 && (bt326.2.2.2.2.1.toList == ([] : List UInt8))))))) else (some false))))))
theorem carillonlaw09_LinkBack.mono : ∀ a0 a1 a2 a3 a4 a5 k, LeO (carillonlaw09_LinkBack.f k a0 a1 a2 a3 a4 a5) (carillonlaw09_LinkBack.f (k + 1) a0 a1 a2 a3 a4 a5) := by
 intro a0 a1 a2 a3 a4 a5 k
 unfold carillonlaw09_LinkBack.f
 repeat' first
   | (with_reducible exact link_Decode.mono _ _)
   | (with_reducible exact link_Encode.mono _ _ _ _ _ _)
   | (with_reducible exact LeO.refl _)
   | (with_reducible exact LeO.none _)
   | (with_reducible refine LeO.ite ?_ ?_)
   | (with_reducible refine LeO.bind ?_ (fun _ => ?_))
   | exact link_Decode.mono _ _
   | exact link_Encode.mono _ _ _ _ _ _
   | exact LeO.none _
   | refine LeO.ite ?_ ?_
   | refine LeO.bind ?_ (fun _ => ?_)
set_option maxHeartbeats 8000000 in
set_option maxRecDepth 100000 in
theorem carillonlaw09_LinkBack.calls (k : Nat) (a0_0 : Int) (a0_1 : Int) (a0_2 : Int) (a0_3 : Int) (a0_4 : ByteArray) (a1 : ByteArray) (r : Bool) (w : World) (hr_ : Aside0 (r = true)) (HT_ : TabOk w) (h : carillonlaw09_LinkBack.f k a0_0 a0_1 a0_2 a0_3 a0_4 a1 = some r) :
  Calls Tryd.prog 4 #[.agg #[.int .i64 a0_0, .int .i64 a0_1, .int .i64 a0_2, .int .i64 a0_3, .string a0_4], .string a1] w fun e w' => e = .returned (.bool r) ∧ Below w.heap.size w w' := by
 have HT := Aside0.mk HT_
 clear HT_
 have hu23 := Tryd.underlying23
 have HB := Aside0.mk (Below.refl w.heap.size w)
 have H : ((carillonlaw09_examples.f).bind fun t307 => ((link_Encode.f k a0_0 a0_1 a0_2 a0_3 a0_4).bind fun bt308 => (if bt308.2 = 0 then ((link_Decode.f k bt308.1).bind fun bt310 => (if (!(bt310.1 == a0_0) || (!(bt310.2.1 == a0_1) || (!(bt310.2.2.1 == a0_2) || (!(bt310.2.2.2.1 == a0_3) || (!(bt310.2.2.2.2.1.toList == a0_4.toList)))))) = true then (some false) else (if bt310.2.2.2.2.2 = 0 then ((link_Decode.f k a1).bind fun bt317 => (if bt317.2.2.2.2.2 = 0 then ((link_Encode.f k bt317.1 bt317.2.1 bt317.2.2.1 bt317.2.2.2.1 bt317.2.2.2.2.1).bind fun bt324 => (if t307 = true then (if bt324.2 = 0 then (some (bt324.1.toList == a1.toList)) else (some false)) else (some false))) else (if t307 = true then (some (bt317.1 == 0 && (bt317.2.1 == 0 && (bt317.2.2.1 == 0 && (bt317.2.2.2.1 == 0 && (bt317.2.2.2.2.1.toList == ([] : List UInt8))))))) else (some false)))) else (some false)))) else ((link_Decode.f k a1).bind fun bt326 => (if bt326.2.2.2.2.2 = 0 then ((link_Encode.f k bt326.1 bt326.2.1 bt326.2.2.1 bt326.2.2.2.1 bt326.2.2.2.2.1).bind fun bt333 => (if t307 = true then (if bt333.2 = 0 then (some (bt333.1.toList == a1.toList)) else (some false)) else (some false))) else (if t307 = true then (some (bt326.1 == 0 && (bt326.2.1 == 0 && (bt326.2.2.1 == 0 && (bt326.2.2.2.1 == 0 && (bt326.2.2.2.2.1.toList == ([] : List UInt8))))))) else (some false))))))) = some r := h
 clear h
 replace H := Option.bind_eq_some_iff.mp H
 obtain ⟨t307, A30, H⟩ := H
 replace H : ((link_Encode.f k a0_0 a0_1 a0_2 a0_3 a0_4).bind fun bt308 => (if bt308.2 = 0 then ((link_Decode.f k bt308.1).bind fun bt310 => (if (!(bt310.1 == a0_0) || (!(bt310.2.1 == a0_1) || (!(bt310.2.2.1 == a0_2) || (!(bt310.2.2.2.1 == a0_3) || (!(bt310.2.2.2.2.1.toList == a0_4.toList)))))) = true then (some false) else (if bt310.2.2.2.2.2 = 0 then ((link_Decode.f k a1).bind fun bt317 => (if bt317.2.2.2.2.2 = 0 then ((link_Encode.f k bt317.1 bt317.2.1 bt317.2.2.1 bt317.2.2.2.1 bt317.2.2.2.2.1).bind fun bt324 => (if t307 = true then (if bt324.2 = 0 then (some (bt324.1.toList == a1.toList)) else (some false)) else (some false))) else (if t307 = true then (some (bt317.1 == 0 && (bt317.2.1 == 0 && (bt317.2.2.1 == 0 && (bt317.2.2.2.1 == 0 && (bt317.2.2.2.2.1.toList == ([] : List UInt8))))))) else (some false)))) else (some false)))) else ((link_Decode.f k a1).bind fun bt326 => (if bt326.2.2.2.2.2 = 0 then ((link_Encode.f k bt326.1 bt326.2.1 bt326.2.2.1 bt326.2.2.2.1 bt326.2.2.2.2.1).bind fun bt333 => (if t307 = true then (if bt333.2 = 0 then (some (bt333.1.toList == a1.toList)) else (some false)) else (some false))) else (if t307 = true then (some (bt326.1 == 0 && (bt326.2.1 == 0 && (bt326.2.2.1 == 0 && (bt326.2.2.2.1 == 0 && (bt326.2.2.2.2.1.toList == ([] : List UInt8))))))) else (some false)))))) = some r := H
 have A3 := Aside0.mk A30
 clear A30
 replace H := Option.bind_eq_some_iff.mp H
 obtain ⟨⟨t308, t309⟩, A40, H⟩ := H
 replace H : (if t309 = 0 then ((link_Decode.f k t308).bind fun bt310 => (if (!(bt310.1 == a0_0) || (!(bt310.2.1 == a0_1) || (!(bt310.2.2.1 == a0_2) || (!(bt310.2.2.2.1 == a0_3) || (!(bt310.2.2.2.2.1.toList == a0_4.toList)))))) = true then (some false) else (if bt310.2.2.2.2.2 = 0 then ((link_Decode.f k a1).bind fun bt317 => (if bt317.2.2.2.2.2 = 0 then ((link_Encode.f k bt317.1 bt317.2.1 bt317.2.2.1 bt317.2.2.2.1 bt317.2.2.2.2.1).bind fun bt324 => (if t307 = true then (if bt324.2 = 0 then (some (bt324.1.toList == a1.toList)) else (some false)) else (some false))) else (if t307 = true then (some (bt317.1 == 0 && (bt317.2.1 == 0 && (bt317.2.2.1 == 0 && (bt317.2.2.2.1 == 0 && (bt317.2.2.2.2.1.toList == ([] : List UInt8))))))) else (some false)))) else (some false)))) else ((link_Decode.f k a1).bind fun bt326 => (if bt326.2.2.2.2.2 = 0 then ((link_Encode.f k bt326.1 bt326.2.1 bt326.2.2.1 bt326.2.2.2.1 bt326.2.2.2.2.1).bind fun bt333 => (if t307 = true then (if bt333.2 = 0 then (some (bt333.1.toList == a1.toList)) else (some false)) else (some false))) else (if t307 = true then (some (bt326.1 == 0 && (bt326.2.1 == 0 && (bt326.2.2.1 == 0 && (bt326.2.2.2.1 == 0 && (bt326.2.2.2.2.1.toList == ([] : List UInt8))))))) else (some false))))) = some r := H
 have A4 := Aside0.mk A40
 clear A40
 by_cases c5 : t309 = 0; rotate_left
 ·rw [if_neg c5] at H
  have c5b0 : (t309 == 0) = false := beq_eq_false_iff_ne.mpr c5
  have c5b1 : (t309 != 0) = true := bne_iff_ne.mpr c5
  replace H := Option.bind_eq_some_iff.mp H
  obtain ⟨⟨t326, t327, t328, t329, t330, t331⟩, A440, H⟩ := H
  replace H : (if t331 = 0 then ((link_Encode.f k t326 t327 t328 t329 t330).bind fun bt333 => (if t307 = true then (if bt333.2 = 0 then (some (bt333.1.toList == a1.toList)) else (some false)) else (some false))) else (if t307 = true then (some (t326 == 0 && (t327 == 0 && (t328 == 0 && (t329 == 0 && (t330.toList == ([] : List UInt8))))))) else (some false))) = some r := H
  have A44 := Aside0.mk A440
  clear A440
  by_cases c45 : t331 = 0; rotate_left
  ·rw [if_neg c45] at H
   have c45b0 : (t331 == 0) = false := beq_eq_false_iff_ne.mpr c45
   have c45b1 : (t331 != 0) = true := bne_iff_ne.mpr c45
   by_cases c58 : t307 = true; rotate_left
   ·replace c58 := Bool.eq_false_iff.mpr c58
    subst c58
    have H1 : (some false) = some r := by rw [if_neg (show ¬ (false = true) by decide)] at H; exact H
    clear H
    have H := H1
    clear H1
    exact absurd ((Option.some.inj H).trans hr_.out) (by decide)
   subst c58
   have H1 : (some (t326 == 0 && (t327 == 0 && (t328 == 0 && (t329 == 0 && (t330.toList == ([] : List UInt8))))))) = some r := by rw [if_pos rfl] at H; exact H
   clear H
   have H := H1
   clear H1
   obtain rfl := Option.some.inj H
   go_enter Tryd.func4, Tryd.ntmps4
   go_wp2_with (first | ((with_reducible refine gate_dst (N := 2) rfl ?_); refine box_event ?hg (N := 2) ?hd (cs := #[.int .i64 a0_0, .int .i64 a0_1, .int .i64 a0_2, .int .i64 a0_3, .string a0_4]) (t := 23) ?hr ?_; (case hd => rfl); (case hg => rfl); (case hr => first | (go_simp; done) | (go_simp; rfl)); intro ab hg w59 hbox hb; have n0_ := Aside0.mk (below_step bw hb); have n1_ := Aside0.mk (hbox); have n2_ := Aside0.mk ((g1 hg bw : w.heap.size ≤ ab)); have n3_ := Aside0.mk ((g1 hg bw : w.heap.size ≤ ab)); clear HB; have HB := n0_; have aa := n1_; have ar := n2_; have au := n3_; clear n0_ n1_ n2_ n3_; clear hb hbox hg) | ((with_reducible refine gate_callee (f := 5) rfl ?_); refine goesL_ (some 14) rfl rfl Tryd.func5 (by kernel_rfl) rfl #[] rfl am ?_; (with_reducible refine (carillonlaw09_examples.calls  true _ A3.out).mono ?_); rintro e w60 ⟨rfl, hb⟩; refine ⟨_, rfl, ?_⟩; have n0_ := Aside0.mk (nb aa.out hb); have n1_ := Aside0.mk (below_step bw hb); clear aa; clear HB; have aa := n0_; have HB := n1_; clear n0_ n1_; (try clear hb); obtain ⟨hcz61_0, hcz61_1, hcz61_2, hcz61_3, hcz61_4, hfz61_0, hfz61_1, hfz61_2, hfz61_3, hfz61_4⟩ := bx5 aa.out) | ((with_reducible refine gate_callee (f := 6) rfl ?_); refine goesL_ (some 17) rfl rfl Tryd.func6 (by kernel_rfl) rfl #[.agg #[.int .i64 a0_0, .int .i64 a0_1, .int .i64 a0_2, .int .i64 a0_3, .string a0_4]] rfl am ?_; (with_reducible refine (link_Encode.calls k a0_0 a0_1 a0_2 a0_3 a0_4 t308 t309 _ tbk A4.out).mono ?_); rintro e w62 ⟨rfl, hb⟩; refine ⟨_, rfl, ?_⟩; have n0_ := Aside0.mk (nb aa.out hb); have n1_ := Aside0.mk (below_step bw hb); clear aa; clear HB; have aa := n0_; have HB := n1_; clear n0_ n1_; (try clear hb)) | ((with_reducible refine gate_callee (f := 8) rfl ?_); refine goesL_ (some 36) rfl rfl Tryd.func8 (by kernel_rfl) rfl #[.string a1] rfl am ?_; (with_reducible refine (link_Decode.calls k a1 t326 t327 t328 t329 t330 t331 _ tbk A44.out).mono ?_); rintro e w63 ⟨rfl, hb⟩; refine ⟨_, rfl, ?_⟩; have n0_ := Aside0.mk (nb aa.out hb); have n1_ := Aside0.mk (below_step bw hb); clear aa; clear HB; have aa := n0_; have HB := n1_; clear n0_ n1_; (try clear hb)) | ((with_reducible refine gate_dst (N := 10) rfl ?_); refine box_event ?hg (N := 10) ?hd (cs := #[.int .i64 0, .int .i64 0, .int .i64 0, .int .i64 0, .string (⟨#[]⟩ : ByteArray)]) (t := 23) ?hr ?_; (case hd => rfl); (case hg => rfl); (case hr => first | (go_simp; done) | (go_simp; rfl)); intro aj hg w64 hbox hb; have n0_ := Aside0.mk (nb aa.out hb); have n1_ := Aside0.mk (below_step bw hb); have n2_ := Aside0.mk (hbox); have n3_ := Aside0.mk ((g1 hg bw : w.heap.size ≤ aj)); have n4_ := Aside0.mk ((g1 hg bw : w.heap.size ≤ aj)); have n5_ := Aside0.mk ((n1 hg aa.out : ab ≠ aj)); have n6_ := Aside0.mk ((n2 hg aa.out : aj ≠ ab)); clear aa; clear HB; have aa := n0_; have HB := n1_; have aq := n2_; have GW332 := n3_; have GE332 := n4_; have ai := n5_; have ao := n6_; clear n0_ n1_ n2_ n3_ n4_ n5_ n6_; clear hb hbox hg; have hnb65 := ao.out; have hnc65 := ai.out; obtain ⟨hcz66_0, hcz66_1, hcz66_2, hcz66_3, hcz66_4, hfz66_0, hfz66_1, hfz66_2, hfz66_3, hfz66_4⟩ := bx5 aq.out))
   go_ret
   exact ⟨er, bw⟩
  rw [if_pos c45] at H
  have c45b0 : (t331 == 0) = true := beq_iff_eq.mpr c45
  have c45b1 : (t331 != 0) = false := bne_eq_false_iff_eq.mpr c45
  clear c45
  replace H := Option.bind_eq_some_iff.mp H
  obtain ⟨⟨t333, t334⟩, A460, H⟩ := H
  replace H : (if t307 = true then (if t334 = 0 then (some (t333.toList == a1.toList)) else (some false)) else (some false)) = some r := H
  have A46 := Aside0.mk A460
  clear A460
  by_cases c47 : t307 = true; rotate_left
  ·replace c47 := Bool.eq_false_iff.mpr c47
   subst c47
   have H1 : (some false) = some r := by rw [if_neg (show ¬ (false = true) by decide)] at H; exact H
   clear H
   have H := H1
   clear H1
   exact absurd ((Option.some.inj H).trans hr_.out) (by decide)
  subst c47
  have H1 : (if t334 = 0 then (some (t333.toList == a1.toList)) else (some false)) = some r := by rw [if_pos rfl] at H; exact H
  clear H
  have H := H1
  clear H1
  by_cases c48 : t334 = 0; rotate_left
  ·rw [if_neg c48] at H
   have c48b0 : (t334 == 0) = false := beq_eq_false_iff_ne.mpr c48
   have c48b1 : (t334 != 0) = true := bne_iff_ne.mpr c48
   exact absurd ((Option.some.inj H).trans hr_.out) (by decide)
  rw [if_pos c48] at H
  have c48b0 : (t334 == 0) = true := beq_iff_eq.mpr c48
  have c48b1 : (t334 != 0) = false := bne_eq_false_iff_eq.mpr c48
  clear c48
  obtain rfl := Option.some.inj H
  go_enter Tryd.func4, Tryd.ntmps4
  go_wp2_with (first | ((with_reducible refine gate_dst (N := 2) rfl ?_); refine box_event ?hg (N := 2) ?hd (cs := #[.int .i64 a0_0, .int .i64 a0_1, .int .i64 a0_2, .int .i64 a0_3, .string a0_4]) (t := 23) ?hr ?_; (case hd => rfl); (case hg => rfl); (case hr => first | (go_simp; done) | (go_simp; rfl)); intro ab hg w49 hbox hb; have n0_ := Aside0.mk (below_step bw hb); have n1_ := Aside0.mk (hbox); have n2_ := Aside0.mk ((g1 hg bw : w.heap.size ≤ ab)); have n3_ := Aside0.mk ((g1 hg bw : w.heap.size ≤ ab)); clear HB; have HB := n0_; have aa := n1_; have ar := n2_; have au := n3_; clear n0_ n1_ n2_ n3_; clear hb hbox hg) | ((with_reducible refine gate_callee (f := 5) rfl ?_); refine goesL_ (some 14) rfl rfl Tryd.func5 (by kernel_rfl) rfl #[] rfl am ?_; (with_reducible refine (carillonlaw09_examples.calls  true _ A3.out).mono ?_); rintro e w50 ⟨rfl, hb⟩; refine ⟨_, rfl, ?_⟩; have n0_ := Aside0.mk (nb aa.out hb); have n1_ := Aside0.mk (below_step bw hb); clear aa; clear HB; have aa := n0_; have HB := n1_; clear n0_ n1_; (try clear hb); obtain ⟨hcz51_0, hcz51_1, hcz51_2, hcz51_3, hcz51_4, hfz51_0, hfz51_1, hfz51_2, hfz51_3, hfz51_4⟩ := bx5 aa.out) | ((with_reducible refine gate_callee (f := 6) rfl ?_); refine goesL_ (some 17) rfl rfl Tryd.func6 (by kernel_rfl) rfl #[.agg #[.int .i64 a0_0, .int .i64 a0_1, .int .i64 a0_2, .int .i64 a0_3, .string a0_4]] rfl am ?_; (with_reducible refine (link_Encode.calls k a0_0 a0_1 a0_2 a0_3 a0_4 t308 t309 _ tbk A4.out).mono ?_); rintro e w52 ⟨rfl, hb⟩; refine ⟨_, rfl, ?_⟩; have n0_ := Aside0.mk (nb aa.out hb); have n1_ := Aside0.mk (below_step bw hb); clear aa; clear HB; have aa := n0_; have HB := n1_; clear n0_ n1_; (try clear hb)) | ((with_reducible refine gate_callee (f := 8) rfl ?_); refine goesL_ (some 36) rfl rfl Tryd.func8 (by kernel_rfl) rfl #[.string a1] rfl am ?_; (with_reducible refine (link_Decode.calls k a1 t326 t327 t328 t329 t330 t331 _ tbk A44.out).mono ?_); rintro e w53 ⟨rfl, hb⟩; refine ⟨_, rfl, ?_⟩; have n0_ := Aside0.mk (nb aa.out hb); have n1_ := Aside0.mk (below_step bw hb); clear aa; clear HB; have aa := n0_; have HB := n1_; clear n0_ n1_; (try clear hb)) | ((with_reducible refine gate_dst (N := 10) rfl ?_); refine box_event ?hg (N := 10) ?hd (cs := #[.int .i64 0, .int .i64 0, .int .i64 0, .int .i64 0, .string (⟨#[]⟩ : ByteArray)]) (t := 23) ?hr ?_; (case hd => rfl); (case hg => rfl); (case hr => first | (go_simp; done) | (go_simp; rfl)); intro aj hg w54 hbox hb; have n0_ := Aside0.mk (nb aa.out hb); have n1_ := Aside0.mk (below_step bw hb); have n2_ := Aside0.mk (hbox); have n3_ := Aside0.mk ((g1 hg bw : w.heap.size ≤ aj)); have n4_ := Aside0.mk ((g1 hg bw : w.heap.size ≤ aj)); have n5_ := Aside0.mk ((n1 hg aa.out : ab ≠ aj)); have n6_ := Aside0.mk ((n2 hg aa.out : aj ≠ ab)); clear aa; clear HB; have aa := n0_; have HB := n1_; have aq := n2_; have GW332 := n3_; have GE332 := n4_; have ai := n5_; have ao := n6_; clear n0_ n1_ n2_ n3_ n4_ n5_ n6_; clear hb hbox hg; have hnb55 := ao.out; have hnc55 := ai.out; obtain ⟨hcz56_0, hcz56_1, hcz56_2, hcz56_3, hcz56_4, hfz56_0, hfz56_1, hfz56_2, hfz56_3, hfz56_4⟩ := bx5 aq.out) | ((with_reducible refine gate_callee (f := 6) rfl ?_); refine goesL_ (some 49) rfl rfl Tryd.func6 (by kernel_rfl) rfl #[.agg #[.int .i64 t326, .int .i64 t327, .int .i64 t328, .int .i64 t329, .string t330]] rfl am ?_; (with_reducible refine (link_Encode.calls k t326 t327 t328 t329 t330 t333 t334 _ tbk A46.out).mono ?_); rintro e w57 ⟨rfl, hb⟩; refine ⟨_, rfl, ?_⟩; have n0_ := Aside0.mk (blk_below (g := ab) (o := .cells #[.int .i64 a0_0, .int .i64 a0_1, .int .i64 a0_2, .int .i64 a0_3, .string a0_4] 23 (0, 0)) (by (with_reducible repeat (first | refine blk_drewN ?_ _ | refine blk_drew ?_ | refine blk_alloc ?_ _ | refine blk_far ?_ ai.out _)); exact aa.out) hb); have n1_ := Aside0.mk (blk_below (g := aj) (o := .cells #[.int .i64 t326, .int .i64 t327, .int .i64 t328, .int .i64 t329, .string t330] 23 (0, 0)) (by (with_reducible repeat (first | refine blk_drewN ?_ _ | refine blk_drew ?_ | refine blk_alloc ?_ _)); refine blk_put (cs := #[.int .i64 t326, .int .i64 t327, .int .i64 t328, .int .i64 t329, .string (⟨#[]⟩ : ByteArray)]) ?_ 4 _ rfl; (with_reducible repeat (first | refine blk_drewN ?_ _ | refine blk_drew ?_ | refine blk_alloc ?_ _)); refine blk_put (cs := #[.int .i64 t326, .int .i64 t327, .int .i64 t328, .int .i64 0, .string (⟨#[]⟩ : ByteArray)]) ?_ 3 _ rfl; (with_reducible repeat (first | refine blk_drewN ?_ _ | refine blk_drew ?_ | refine blk_alloc ?_ _)); refine blk_put (cs := #[.int .i64 t326, .int .i64 t327, .int .i64 0, .int .i64 0, .string (⟨#[]⟩ : ByteArray)]) ?_ 2 _ rfl; (with_reducible repeat (first | refine blk_drewN ?_ _ | refine blk_drew ?_ | refine blk_alloc ?_ _)); refine blk_put (cs := #[.int .i64 t326, .int .i64 0, .int .i64 0, .int .i64 0, .string (⟨#[]⟩ : ByteArray)]) ?_ 1 _ rfl; (with_reducible repeat (first | refine blk_drewN ?_ _ | refine blk_drew ?_ | refine blk_alloc ?_ _)); refine blk_put (cs := #[.int .i64 0, .int .i64 0, .int .i64 0, .int .i64 0, .string (⟨#[]⟩ : ByteArray)]) ?_ 0 _ rfl; (with_reducible repeat (first | refine blk_drewN ?_ _ | refine blk_drew ?_ | refine blk_alloc ?_ _)); exact aq.out) hb); have n2_ := Aside0.mk (below_step bw hb); clear aa; clear aq; clear HB; have aa := n0_; have aq := n1_; have HB := n2_; clear n0_ n1_ n2_; (try clear hb)))
  go_ret
  exact ⟨er, bw⟩
 rw [if_pos c5] at H
 have c5b0 : (t309 == 0) = true := beq_iff_eq.mpr c5
 have c5b1 : (t309 != 0) = false := bne_eq_false_iff_eq.mpr c5
 clear c5
 replace H := Option.bind_eq_some_iff.mp H
 obtain ⟨⟨t310, t311, t312, t313, t314, t315⟩, A60, H⟩ := H
 replace H : (if (!(t310 == a0_0) || (!(t311 == a0_1) || (!(t312 == a0_2) || (!(t313 == a0_3) || (!(t314.toList == a0_4.toList)))))) = true then (some false) else (if t315 = 0 then ((link_Decode.f k a1).bind fun bt317 => (if bt317.2.2.2.2.2 = 0 then ((link_Encode.f k bt317.1 bt317.2.1 bt317.2.2.1 bt317.2.2.2.1 bt317.2.2.2.2.1).bind fun bt324 => (if t307 = true then (if bt324.2 = 0 then (some (bt324.1.toList == a1.toList)) else (some false)) else (some false))) else (if t307 = true then (some (bt317.1 == 0 && (bt317.2.1 == 0 && (bt317.2.2.1 == 0 && (bt317.2.2.2.1 == 0 && (bt317.2.2.2.2.1.toList == ([] : List UInt8))))))) else (some false)))) else (some false))) = some r := H
 have A6 := Aside0.mk A60
 clear A60
 by_cases c7 : (!(t310 == a0_0) || (!(t311 == a0_1) || (!(t312 == a0_2) || (!(t313 == a0_3) || (!(t314.toList == a0_4.toList)))))) = true
 ·rw [if_pos c7] at H
  have c7b0 : (!(t310 == a0_0) || (!(t311 == a0_1) || (!(t312 == a0_2) || (!(t313 == a0_3) || (!(t314.toList == a0_4.toList)))))) = true := c7
  (try (have c7b1 : (t310 == a0_0 && (t311 == a0_1 && (t312 == a0_2 && (t313 == a0_3 && (t314.toList == a0_4.toList))))) = false := by have e_ : (t310 == a0_0 && (t311 == a0_1 && (t312 == a0_2 && (t313 == a0_3 && (t314.toList == a0_4.toList))))) = (!(!(t310 == a0_0) || (!(t311 == a0_1) || (!(t312 == a0_2) || (!(t313 == a0_3) || (!(t314.toList == a0_4.toList))))))) := (by simp only [Bool.not_or, Bool.not_and, Bool.not_not]); rw [e_]; first | (simp only [c7, Bool.not_true]; done) | (simp only [Bool.eq_false_iff.mpr c7, Bool.not_false]; done)))
  clear c7
  exact absurd ((Option.some.inj H).trans hr_.out) (by decide)
 rw [if_neg c7] at H
 have c7b0 : (!(t310 == a0_0) || (!(t311 == a0_1) || (!(t312 == a0_2) || (!(t313 == a0_3) || (!(t314.toList == a0_4.toList)))))) = false := by simpa using c7
 (try (have c7b1 : (t310 == a0_0 && (t311 == a0_1 && (t312 == a0_2 && (t313 == a0_3 && (t314.toList == a0_4.toList))))) = true := by have e_ : (t310 == a0_0 && (t311 == a0_1 && (t312 == a0_2 && (t313 == a0_3 && (t314.toList == a0_4.toList))))) = (!(!(t310 == a0_0) || (!(t311 == a0_1) || (!(t312 == a0_2) || (!(t313 == a0_3) || (!(t314.toList == a0_4.toList))))))) := (by simp only [Bool.not_or, Bool.not_and, Bool.not_not]); rw [e_]; first | (simp only [c7, Bool.not_true]; done) | (simp only [Bool.eq_false_iff.mpr c7, Bool.not_false]; done)))
 clear c7
 by_cases c8 : t315 = 0; rotate_left
 ·rw [if_neg c8] at H
  have c8b0 : (t315 == 0) = false := beq_eq_false_iff_ne.mpr c8
  have c8b1 : (t315 != 0) = true := bne_iff_ne.mpr c8
  exact absurd ((Option.some.inj H).trans hr_.out) (by decide)
 rw [if_pos c8] at H
 have c8b0 : (t315 == 0) = true := beq_iff_eq.mpr c8
 have c8b1 : (t315 != 0) = false := bne_eq_false_iff_eq.mpr c8
 clear c8
 replace H := Option.bind_eq_some_iff.mp H
 obtain ⟨⟨t317, t318, t319, t320, t321, t322⟩, A90, H⟩ := H
 replace H : (if t322 = 0 then ((link_Encode.f k t317 t318 t319 t320 t321).bind fun bt324 => (if t307 = true then (if bt324.2 = 0 then (some (bt324.1.toList == a1.toList)) else (some false)) else (some false))) else (if t307 = true then (some (t317 == 0 && (t318 == 0 && (t319 == 0 && (t320 == 0 && (t321.toList == ([] : List UInt8))))))) else (some false))) = some r := H
 have A9 := Aside0.mk A90
 clear A90
 by_cases c10 : t322 = 0; rotate_left
 ·rw [if_neg c10] at H
  have c10b0 : (t322 == 0) = false := beq_eq_false_iff_ne.mpr c10
  have c10b1 : (t322 != 0) = true := bne_iff_ne.mpr c10
  by_cases c29 : t307 = true; rotate_left
  ·replace c29 := Bool.eq_false_iff.mpr c29
   subst c29
   have H1 : (some false) = some r := by rw [if_neg (show ¬ (false = true) by decide)] at H; exact H
   clear H
   have H := H1
   clear H1
   exact absurd ((Option.some.inj H).trans hr_.out) (by decide)
  subst c29
  have H1 : (some (t317 == 0 && (t318 == 0 && (t319 == 0 && (t320 == 0 && (t321.toList == ([] : List UInt8))))))) = some r := by rw [if_pos rfl] at H; exact H
  clear H
  have H := H1
  clear H1
  obtain rfl := Option.some.inj H
  go_enter Tryd.func4, Tryd.ntmps4
  go_wp2_with (first | ((with_reducible refine gate_dst (N := 2) rfl ?_); refine box_event ?hg (N := 2) ?hd (cs := #[.int .i64 a0_0, .int .i64 a0_1, .int .i64 a0_2, .int .i64 a0_3, .string a0_4]) (t := 23) ?hr ?_; (case hd => rfl); (case hg => rfl); (case hr => first | (go_simp; done) | (go_simp; rfl)); intro ab hg w30 hbox hb; have n0_ := Aside0.mk (below_step bw hb); have n1_ := Aside0.mk (hbox); have n2_ := Aside0.mk ((g1 hg bw : w.heap.size ≤ ab)); have n3_ := Aside0.mk ((g1 hg bw : w.heap.size ≤ ab)); clear HB; have HB := n0_; have aa := n1_; have ar := n2_; have au := n3_; clear n0_ n1_ n2_ n3_; clear hb hbox hg) | ((with_reducible refine gate_callee (f := 5) rfl ?_); refine goesL_ (some 14) rfl rfl Tryd.func5 (by kernel_rfl) rfl #[] rfl am ?_; (with_reducible refine (carillonlaw09_examples.calls  true _ A3.out).mono ?_); rintro e w31 ⟨rfl, hb⟩; refine ⟨_, rfl, ?_⟩; have n0_ := Aside0.mk (nb aa.out hb); have n1_ := Aside0.mk (below_step bw hb); clear aa; clear HB; have aa := n0_; have HB := n1_; clear n0_ n1_; (try clear hb); obtain ⟨hcz32_0, hcz32_1, hcz32_2, hcz32_3, hcz32_4, hfz32_0, hfz32_1, hfz32_2, hfz32_3, hfz32_4⟩ := bx5 aa.out) | ((with_reducible refine gate_callee (f := 6) rfl ?_); refine goesL_ (some 17) rfl rfl Tryd.func6 (by kernel_rfl) rfl #[.agg #[.int .i64 a0_0, .int .i64 a0_1, .int .i64 a0_2, .int .i64 a0_3, .string a0_4]] rfl am ?_; (with_reducible refine (link_Encode.calls k a0_0 a0_1 a0_2 a0_3 a0_4 t308 t309 _ tbk A4.out).mono ?_); rintro e w33 ⟨rfl, hb⟩; refine ⟨_, rfl, ?_⟩; have n0_ := Aside0.mk (nb aa.out hb); have n1_ := Aside0.mk (below_step bw hb); clear aa; clear HB; have aa := n0_; have HB := n1_; clear n0_ n1_; (try clear hb)) | ((with_reducible refine gate_callee (f := 8) rfl ?_); refine goesL_ (some 24) rfl rfl Tryd.func8 (by kernel_rfl) rfl #[.string t308] rfl am ?_; (with_reducible refine (link_Decode.calls k t308 t310 t311 t312 t313 t314 t315 _ tbk A6.out).mono ?_); rintro e w34 ⟨rfl, hb⟩; refine ⟨_, rfl, ?_⟩; have n0_ := Aside0.mk (nb aa.out hb); have n1_ := Aside0.mk (below_step bw hb); clear aa; clear HB; have aa := n0_; have HB := n1_; clear n0_ n1_; (try clear hb)) | ((with_reducible refine gate_dst (N := 8) rfl ?_); refine box_event ?hg (N := 8) ?hd (cs := #[.int .i64 0, .int .i64 0, .int .i64 0, .int .i64 0, .string (⟨#[]⟩ : ByteArray)]) (t := 23) ?hr ?_; (case hd => rfl); (case hg => rfl); (case hr => first | (go_simp; done) | (go_simp; rfl)); intro ad hg w35 hbox hb; have n0_ := Aside0.mk (nb aa.out hb); have n1_ := Aside0.mk (below_step bw hb); have n2_ := Aside0.mk (hbox); have n3_ := Aside0.mk ((g1 hg bw : w.heap.size ≤ ad)); have n4_ := Aside0.mk ((g1 hg bw : w.heap.size ≤ ad)); have n5_ := Aside0.mk ((n1 hg aa.out : ab ≠ ad)); have n6_ := Aside0.mk ((n2 hg aa.out : ad ≠ ab)); clear aa; clear HB; have aa := n0_; have HB := n1_; have ac := n2_; have GW316 := n3_; have GE316 := n4_; have af := n5_; have ak := n6_; clear n0_ n1_ n2_ n3_ n4_ n5_ n6_; clear hb hbox hg; have hnb36 := ak.out; have hnc36 := af.out; obtain ⟨hcz37_0, hcz37_1, hcz37_2, hcz37_3, hcz37_4, hfz37_0, hfz37_1, hfz37_2, hfz37_3, hfz37_4⟩ := bx5 ac.out; obtain ⟨hcz38_0, hcz38_1, hcz38_2, hcz38_3, hcz38_4, hfz38_0, hfz38_1, hfz38_2, hfz38_3, hfz38_4⟩ := bx5 aa.out) | ((with_reducible refine gate_callee (f := 8) rfl ?_); refine goesL_ (some 36) rfl rfl Tryd.func8 (by kernel_rfl) rfl #[.string a1] rfl am ?_; (with_reducible refine (link_Decode.calls k a1 t317 t318 t319 t320 t321 t322 _ tbk A9.out).mono ?_); rintro e w39 ⟨rfl, hb⟩; refine ⟨_, rfl, ?_⟩; have n0_ := Aside0.mk (blk_below (g := ab) (o := .cells #[.int .i64 a0_0, .int .i64 a0_1, .int .i64 a0_2, .int .i64 a0_3, .string a0_4] 23 (0, 0)) (by (with_reducible repeat (first | refine blk_drewN ?_ _ | refine blk_drew ?_ | refine blk_alloc ?_ _ | refine blk_far ?_ af.out _)); exact aa.out) hb); have n1_ := Aside0.mk (blk_below (g := ad) (o := .cells #[.int .i64 t310, .int .i64 t311, .int .i64 t312, .int .i64 t313, .string t314] 23 (0, 0)) (by (with_reducible repeat (first | refine blk_drewN ?_ _ | refine blk_drew ?_ | refine blk_alloc ?_ _)); refine blk_put (cs := #[.int .i64 t310, .int .i64 t311, .int .i64 t312, .int .i64 t313, .string (⟨#[]⟩ : ByteArray)]) ?_ 4 _ rfl; (with_reducible repeat (first | refine blk_drewN ?_ _ | refine blk_drew ?_ | refine blk_alloc ?_ _)); refine blk_put (cs := #[.int .i64 t310, .int .i64 t311, .int .i64 t312, .int .i64 0, .string (⟨#[]⟩ : ByteArray)]) ?_ 3 _ rfl; (with_reducible repeat (first | refine blk_drewN ?_ _ | refine blk_drew ?_ | refine blk_alloc ?_ _)); refine blk_put (cs := #[.int .i64 t310, .int .i64 t311, .int .i64 0, .int .i64 0, .string (⟨#[]⟩ : ByteArray)]) ?_ 2 _ rfl; (with_reducible repeat (first | refine blk_drewN ?_ _ | refine blk_drew ?_ | refine blk_alloc ?_ _)); refine blk_put (cs := #[.int .i64 t310, .int .i64 0, .int .i64 0, .int .i64 0, .string (⟨#[]⟩ : ByteArray)]) ?_ 1 _ rfl; (with_reducible repeat (first | refine blk_drewN ?_ _ | refine blk_drew ?_ | refine blk_alloc ?_ _)); refine blk_put (cs := #[.int .i64 0, .int .i64 0, .int .i64 0, .int .i64 0, .string (⟨#[]⟩ : ByteArray)]) ?_ 0 _ rfl; (with_reducible repeat (first | refine blk_drewN ?_ _ | refine blk_drew ?_ | refine blk_alloc ?_ _)); exact ac.out) hb); have n2_ := Aside0.mk (below_step bw hb); clear aa; clear ac; clear HB; have aa := n0_; have ac := n1_; have HB := n2_; clear n0_ n1_ n2_; (try clear hb)) | ((with_reducible refine gate_dst (N := 10) rfl ?_); refine box_event ?hg (N := 10) ?hd (cs := #[.int .i64 0, .int .i64 0, .int .i64 0, .int .i64 0, .string (⟨#[]⟩ : ByteArray)]) (t := 23) ?hr ?_; (case hd => rfl); (case hg => rfl); (case hr => first | (go_simp; done) | (go_simp; rfl)); intro ae hg w40 hbox hb; have n0_ := Aside0.mk (nb aa.out hb); have n1_ := Aside0.mk (nb ac.out hb); have n2_ := Aside0.mk (below_step bw hb); have n3_ := Aside0.mk (hbox); have n4_ := Aside0.mk ((g1 hg bw : w.heap.size ≤ ae)); have n5_ := Aside0.mk ((g1 hg bw : w.heap.size ≤ ae)); have n6_ := Aside0.mk ((n1 hg aa.out : ab ≠ ae)); have n7_ := Aside0.mk ((n2 hg aa.out : ae ≠ ab)); have n8_ := Aside0.mk ((n1 hg ac.out : ad ≠ ae)); have n9_ := Aside0.mk ((n2 hg ac.out : ae ≠ ad)); clear aa; clear ac; clear HB; have aa := n0_; have ac := n1_; have HB := n2_; have ap := n3_; have GW323 := n4_; have GE323 := n5_; have ag := n6_; have al := n7_; have ah := n8_; have an := n9_; clear n0_ n1_ n2_ n3_ n4_ n5_ n6_ n7_ n8_ n9_; clear hb hbox hg; have hnb41 := al.out; have hnc41 := ag.out; have hnb42 := an.out; have hnc42 := ah.out; obtain ⟨hcz43_0, hcz43_1, hcz43_2, hcz43_3, hcz43_4, hfz43_0, hfz43_1, hfz43_2, hfz43_3, hfz43_4⟩ := bx5 ap.out))
  go_ret
  exact ⟨er, bw⟩
 rw [if_pos c10] at H
 have c10b0 : (t322 == 0) = true := beq_iff_eq.mpr c10
 have c10b1 : (t322 != 0) = false := bne_eq_false_iff_eq.mpr c10
 clear c10
 replace H := Option.bind_eq_some_iff.mp H
 obtain ⟨⟨t324, t325⟩, A110, H⟩ := H
 replace H : (if t307 = true then (if t325 = 0 then (some (t324.toList == a1.toList)) else (some false)) else (some false)) = some r := H
 have A11 := Aside0.mk A110
 clear A110
 by_cases c12 : t307 = true; rotate_left
 ·replace c12 := Bool.eq_false_iff.mpr c12
  subst c12
  have H1 : (some false) = some r := by rw [if_neg (show ¬ (false = true) by decide)] at H; exact H
  clear H
  have H := H1
  clear H1
  exact absurd ((Option.some.inj H).trans hr_.out) (by decide)
 subst c12
 have H1 : (if t325 = 0 then (some (t324.toList == a1.toList)) else (some false)) = some r := by rw [if_pos rfl] at H; exact H
 clear H
 have H := H1
 clear H1
 by_cases c13 : t325 = 0; rotate_left
 ·rw [if_neg c13] at H
  have c13b0 : (t325 == 0) = false := beq_eq_false_iff_ne.mpr c13
  have c13b1 : (t325 != 0) = true := bne_iff_ne.mpr c13
  exact absurd ((Option.some.inj H).trans hr_.out) (by decide)
 rw [if_pos c13] at H
 have c13b0 : (t325 == 0) = true := beq_iff_eq.mpr c13
 have c13b1 : (t325 != 0) = false := bne_eq_false_iff_eq.mpr c13
 clear c13
 obtain rfl := Option.some.inj H
 go_enter Tryd.func4, Tryd.ntmps4
 go_wp2_with (first | ((with_reducible refine gate_dst (N := 2) rfl ?_); refine box_event ?hg (N := 2) ?hd (cs := #[.int .i64 a0_0, .int .i64 a0_1, .int .i64 a0_2, .int .i64 a0_3, .string a0_4]) (t := 23) ?hr ?_; (case hd => rfl); (case hg => rfl); (case hr => first | (go_simp; done) | (go_simp; rfl)); intro ab hg w14 hbox hb; have n0_ := Aside0.mk (below_step bw hb); have n1_ := Aside0.mk (hbox); have n2_ := Aside0.mk ((g1 hg bw : w.heap.size ≤ ab)); have n3_ := Aside0.mk ((g1 hg bw : w.heap.size ≤ ab)); clear HB; have HB := n0_; have aa := n1_; have ar := n2_; have au := n3_; clear n0_ n1_ n2_ n3_; clear hb hbox hg) | ((with_reducible refine gate_callee (f := 5) rfl ?_); refine goesL_ (some 14) rfl rfl Tryd.func5 (by kernel_rfl) rfl #[] rfl am ?_; (with_reducible refine (carillonlaw09_examples.calls  true _ A3.out).mono ?_); rintro e w15 ⟨rfl, hb⟩; refine ⟨_, rfl, ?_⟩; have n0_ := Aside0.mk (nb aa.out hb); have n1_ := Aside0.mk (below_step bw hb); clear aa; clear HB; have aa := n0_; have HB := n1_; clear n0_ n1_; (try clear hb); obtain ⟨hcz16_0, hcz16_1, hcz16_2, hcz16_3, hcz16_4, hfz16_0, hfz16_1, hfz16_2, hfz16_3, hfz16_4⟩ := bx5 aa.out) | ((with_reducible refine gate_callee (f := 6) rfl ?_); refine goesL_ (some 17) rfl rfl Tryd.func6 (by kernel_rfl) rfl #[.agg #[.int .i64 a0_0, .int .i64 a0_1, .int .i64 a0_2, .int .i64 a0_3, .string a0_4]] rfl am ?_; (with_reducible refine (link_Encode.calls k a0_0 a0_1 a0_2 a0_3 a0_4 t308 t309 _ tbk A4.out).mono ?_); rintro e w17 ⟨rfl, hb⟩; refine ⟨_, rfl, ?_⟩; have n0_ := Aside0.mk (nb aa.out hb); have n1_ := Aside0.mk (below_step bw hb); clear aa; clear HB; have aa := n0_; have HB := n1_; clear n0_ n1_; (try clear hb)) | ((with_reducible refine gate_callee (f := 8) rfl ?_); refine goesL_ (some 24) rfl rfl Tryd.func8 (by kernel_rfl) rfl #[.string t308] rfl am ?_; (with_reducible refine (link_Decode.calls k t308 t310 t311 t312 t313 t314 t315 _ tbk A6.out).mono ?_); rintro e w18 ⟨rfl, hb⟩; refine ⟨_, rfl, ?_⟩; have n0_ := Aside0.mk (nb aa.out hb); have n1_ := Aside0.mk (below_step bw hb); clear aa; clear HB; have aa := n0_; have HB := n1_; clear n0_ n1_; (try clear hb)) | ((with_reducible refine gate_dst (N := 8) rfl ?_); refine box_event ?hg (N := 8) ?hd (cs := #[.int .i64 0, .int .i64 0, .int .i64 0, .int .i64 0, .string (⟨#[]⟩ : ByteArray)]) (t := 23) ?hr ?_; (case hd => rfl); (case hg => rfl); (case hr => first | (go_simp; done) | (go_simp; rfl)); intro ad hg w19 hbox hb; have n0_ := Aside0.mk (nb aa.out hb); have n1_ := Aside0.mk (below_step bw hb); have n2_ := Aside0.mk (hbox); have n3_ := Aside0.mk ((g1 hg bw : w.heap.size ≤ ad)); have n4_ := Aside0.mk ((g1 hg bw : w.heap.size ≤ ad)); have n5_ := Aside0.mk ((n1 hg aa.out : ab ≠ ad)); have n6_ := Aside0.mk ((n2 hg aa.out : ad ≠ ab)); clear aa; clear HB; have aa := n0_; have HB := n1_; have ac := n2_; have GW316 := n3_; have GE316 := n4_; have af := n5_; have ak := n6_; clear n0_ n1_ n2_ n3_ n4_ n5_ n6_; clear hb hbox hg; have hnb20 := ak.out; have hnc20 := af.out; obtain ⟨hcz21_0, hcz21_1, hcz21_2, hcz21_3, hcz21_4, hfz21_0, hfz21_1, hfz21_2, hfz21_3, hfz21_4⟩ := bx5 ac.out; obtain ⟨hcz22_0, hcz22_1, hcz22_2, hcz22_3, hcz22_4, hfz22_0, hfz22_1, hfz22_2, hfz22_3, hfz22_4⟩ := bx5 aa.out) | ((with_reducible refine gate_callee (f := 8) rfl ?_); refine goesL_ (some 36) rfl rfl Tryd.func8 (by kernel_rfl) rfl #[.string a1] rfl am ?_; (with_reducible refine (link_Decode.calls k a1 t317 t318 t319 t320 t321 t322 _ tbk A9.out).mono ?_); rintro e w23 ⟨rfl, hb⟩; refine ⟨_, rfl, ?_⟩; have n0_ := Aside0.mk (blk_below (g := ab) (o := .cells #[.int .i64 a0_0, .int .i64 a0_1, .int .i64 a0_2, .int .i64 a0_3, .string a0_4] 23 (0, 0)) (by (with_reducible repeat (first | refine blk_drewN ?_ _ | refine blk_drew ?_ | refine blk_alloc ?_ _ | refine blk_far ?_ af.out _)); exact aa.out) hb); have n1_ := Aside0.mk (blk_below (g := ad) (o := .cells #[.int .i64 t310, .int .i64 t311, .int .i64 t312, .int .i64 t313, .string t314] 23 (0, 0)) (by (with_reducible repeat (first | refine blk_drewN ?_ _ | refine blk_drew ?_ | refine blk_alloc ?_ _)); refine blk_put (cs := #[.int .i64 t310, .int .i64 t311, .int .i64 t312, .int .i64 t313, .string (⟨#[]⟩ : ByteArray)]) ?_ 4 _ rfl; (with_reducible repeat (first | refine blk_drewN ?_ _ | refine blk_drew ?_ | refine blk_alloc ?_ _)); refine blk_put (cs := #[.int .i64 t310, .int .i64 t311, .int .i64 t312, .int .i64 0, .string (⟨#[]⟩ : ByteArray)]) ?_ 3 _ rfl; (with_reducible repeat (first | refine blk_drewN ?_ _ | refine blk_drew ?_ | refine blk_alloc ?_ _)); refine blk_put (cs := #[.int .i64 t310, .int .i64 t311, .int .i64 0, .int .i64 0, .string (⟨#[]⟩ : ByteArray)]) ?_ 2 _ rfl; (with_reducible repeat (first | refine blk_drewN ?_ _ | refine blk_drew ?_ | refine blk_alloc ?_ _)); refine blk_put (cs := #[.int .i64 t310, .int .i64 0, .int .i64 0, .int .i64 0, .string (⟨#[]⟩ : ByteArray)]) ?_ 1 _ rfl; (with_reducible repeat (first | refine blk_drewN ?_ _ | refine blk_drew ?_ | refine blk_alloc ?_ _)); refine blk_put (cs := #[.int .i64 0, .int .i64 0, .int .i64 0, .int .i64 0, .string (⟨#[]⟩ : ByteArray)]) ?_ 0 _ rfl; (with_reducible repeat (first | refine blk_drewN ?_ _ | refine blk_drew ?_ | refine blk_alloc ?_ _)); exact ac.out) hb); have n2_ := Aside0.mk (below_step bw hb); clear aa; clear ac; clear HB; have aa := n0_; have ac := n1_; have HB := n2_; clear n0_ n1_ n2_; (try clear hb)) | ((with_reducible refine gate_dst (N := 10) rfl ?_); refine box_event ?hg (N := 10) ?hd (cs := #[.int .i64 0, .int .i64 0, .int .i64 0, .int .i64 0, .string (⟨#[]⟩ : ByteArray)]) (t := 23) ?hr ?_; (case hd => rfl); (case hg => rfl); (case hr => first | (go_simp; done) | (go_simp; rfl)); intro ae hg w24 hbox hb; have n0_ := Aside0.mk (nb aa.out hb); have n1_ := Aside0.mk (nb ac.out hb); have n2_ := Aside0.mk (below_step bw hb); have n3_ := Aside0.mk (hbox); have n4_ := Aside0.mk ((g1 hg bw : w.heap.size ≤ ae)); have n5_ := Aside0.mk ((g1 hg bw : w.heap.size ≤ ae)); have n6_ := Aside0.mk ((n1 hg aa.out : ab ≠ ae)); have n7_ := Aside0.mk ((n2 hg aa.out : ae ≠ ab)); have n8_ := Aside0.mk ((n1 hg ac.out : ad ≠ ae)); have n9_ := Aside0.mk ((n2 hg ac.out : ae ≠ ad)); clear aa; clear ac; clear HB; have aa := n0_; have ac := n1_; have HB := n2_; have ap := n3_; have GW323 := n4_; have GE323 := n5_; have ag := n6_; have al := n7_; have ah := n8_; have an := n9_; clear n0_ n1_ n2_ n3_ n4_ n5_ n6_ n7_ n8_ n9_; clear hb hbox hg; have hnb25 := al.out; have hnc25 := ag.out; have hnb26 := an.out; have hnc26 := ah.out; obtain ⟨hcz27_0, hcz27_1, hcz27_2, hcz27_3, hcz27_4, hfz27_0, hfz27_1, hfz27_2, hfz27_3, hfz27_4⟩ := bx5 ap.out) | ((with_reducible refine gate_callee (f := 6) rfl ?_); refine goesL_ (some 49) rfl rfl Tryd.func6 (by kernel_rfl) rfl #[.agg #[.int .i64 t317, .int .i64 t318, .int .i64 t319, .int .i64 t320, .string t321]] rfl am ?_; (with_reducible refine (link_Encode.calls k t317 t318 t319 t320 t321 t324 t325 _ tbk A11.out).mono ?_); rintro e w28 ⟨rfl, hb⟩; refine ⟨_, rfl, ?_⟩; have n0_ := Aside0.mk (blk_below (g := ab) (o := .cells #[.int .i64 a0_0, .int .i64 a0_1, .int .i64 a0_2, .int .i64 a0_3, .string a0_4] 23 (0, 0)) (by (with_reducible repeat (first | refine blk_drewN ?_ _ | refine blk_drew ?_ | refine blk_alloc ?_ _ | refine blk_far ?_ ag.out _)); exact aa.out) hb); have n1_ := Aside0.mk (blk_below (g := ad) (o := .cells #[.int .i64 t310, .int .i64 t311, .int .i64 t312, .int .i64 t313, .string t314] 23 (0, 0)) (by (with_reducible repeat (first | refine blk_drewN ?_ _ | refine blk_drew ?_ | refine blk_alloc ?_ _ | refine blk_far ?_ ah.out _)); exact ac.out) hb); have n2_ := Aside0.mk (blk_below (g := ae) (o := .cells #[.int .i64 t317, .int .i64 t318, .int .i64 t319, .int .i64 t320, .string t321] 23 (0, 0)) (by (with_reducible repeat (first | refine blk_drewN ?_ _ | refine blk_drew ?_ | refine blk_alloc ?_ _)); refine blk_put (cs := #[.int .i64 t317, .int .i64 t318, .int .i64 t319, .int .i64 t320, .string (⟨#[]⟩ : ByteArray)]) ?_ 4 _ rfl; (with_reducible repeat (first | refine blk_drewN ?_ _ | refine blk_drew ?_ | refine blk_alloc ?_ _)); refine blk_put (cs := #[.int .i64 t317, .int .i64 t318, .int .i64 t319, .int .i64 0, .string (⟨#[]⟩ : ByteArray)]) ?_ 3 _ rfl; (with_reducible repeat (first | refine blk_drewN ?_ _ | refine blk_drew ?_ | refine blk_alloc ?_ _)); refine blk_put (cs := #[.int .i64 t317, .int .i64 t318, .int .i64 0, .int .i64 0, .string (⟨#[]⟩ : ByteArray)]) ?_ 2 _ rfl; (with_reducible repeat (first | refine blk_drewN ?_ _ | refine blk_drew ?_ | refine blk_alloc ?_ _)); refine blk_put (cs := #[.int .i64 t317, .int .i64 0, .int .i64 0, .int .i64 0, .string (⟨#[]⟩ : ByteArray)]) ?_ 1 _ rfl; (with_reducible repeat (first | refine blk_drewN ?_ _ | refine blk_drew ?_ | refine blk_alloc ?_ _)); refine blk_put (cs := #[.int .i64 0, .int .i64 0, .int .i64 0, .int .i64 0, .string (⟨#[]⟩ : ByteArray)]) ?_ 0 _ rfl; (with_reducible repeat (first | refine blk_drewN ?_ _ | refine blk_drew ?_ | refine blk_alloc ?_ _)); exact ap.out) hb); have n3_ := Aside0.mk (below_step bw hb); clear aa; clear ac; clear ap; clear HB; have aa := n0_; have ac := n1_; have ap := n2_; have HB := n3_; clear n0_ n1_ n2_ n3_; (try clear hb)))
 go_ret
 exact ⟨er, bw⟩

end Go.Proofs.YtdpogggajdfedaaDoor.P
