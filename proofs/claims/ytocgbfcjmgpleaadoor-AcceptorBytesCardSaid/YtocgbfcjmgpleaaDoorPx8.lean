-- Printed by this session's program wip/xp.py (a turned copy of the kit's printer): functions, their contracts.
import Derived.Test.YtocgbfcjmgpleaaDoorPx0
import Derived.Test.YtocgbfcjmgpleaaDoorPx1
import Derived.Test.YtocgbfcjmgpleaaDoorPx5
import Derived.Test.YtocgbfcjmgpleaaDoorPx6
import Derived.Test.YtocgbfcjmgpleaaDoorPx7
namespace Go.Proofs.YtocgbfcjmgpleaaDoor.P
open Go.RowKit Go.Proofs.YtocgbfcjmgpleaaDoorW.PrintWords Go.Proofs.YtocgbfcjmgpleaaDoorW.PrintLast Go.Proofs.YtocgbfcjmgpleaaDoorW.PrintMore
attribute [local go_sem] max2_int min2_int max_two min_two max_three min_three max_four min_four   -- for this text's walks alone
set_option linter.unusedVariables false
set_option linter.unusedSimpArgs false

attribute [local go_sem high] eqA23
/-! ### carillonlaw10_examples: function 6 -/
def carillonlaw10_examples.g  : Option (Bool) := (acceptor_Prepare.f 0 0 0 0 (⟨#[]⟩ : ByteArray) 2 1).bind fun bt145 => ((acceptor_Prepare.f bt145.1 bt145.2.1 bt145.2.2.1 bt145.2.2.2.1 bt145.2.2.2.2.1 1 5).bind fun bt152 => ((acceptor_Take.f bt145.1 bt145.2.1 bt145.2.2.1 bt145.2.2.2.1 bt145.2.2.2.2.1 2 1 (⟨#[120]⟩ : ByteArray)).bind fun bt159 => ((acceptor_Take.f bt159.1 bt159.2.1 bt159.2.2.1 bt159.2.2.2.1 bt159.2.2.2.2.1 2 1 (⟨#[121]⟩ : ByteArray)).bind fun bt166 => ((acceptor_Take.f bt159.1 bt159.2.1 bt159.2.2.1 bt159.2.2.2.1 bt159.2.2.2.2.1 3 0 (⟨#[121]⟩ : ByteArray)).bind fun bt173 => (if bt145.2.2.2.2.2 = true then (if bt152.2.2.2.2.2 = true then (some false) else (if bt159.2.2.2.2.2 = true then (if bt166.2.2.2.2.2 = true then (some false) else (if bt173.2.2.2.2.2 = true then (if bt173.2.2.2.2.1.toList = ([121] : List UInt8) then (if (bt173.1 == 3 && (bt173.2.1 == 0)) = true then ((acceptor_Less.f 2 0 2 1).bind fun t180 => (if t180 = true then ((acceptor_Right.f 0 0).bind fun t181 => (some (!t181))) else (some false))) else (some false)) else (some false)) else (some false))) else (some false))) else (some false))))))
set_option maxHeartbeats 8000000 in
set_option maxRecDepth 100000 in
theorem carillonlaw10_examples.calls0  (r : Bool) (w : World) (hr_ : Aside0 (r = true)) (h : carillonlaw10_examples.g  = some r) :
  Calls Tryd.prog 6 #[] w fun e w' => e = .returned (.bool r) ∧ Below w.heap.size w w' := by
 have hu23 := Tryd.underlying23
 have hu25 := Tryd.underlying25
 have HB := Aside0.mk (Below.refl w.heap.size w)
 have H : ((acceptor_Prepare.f 0 0 0 0 (⟨#[]⟩ : ByteArray) 2 1).bind fun bt145 => ((acceptor_Prepare.f bt145.1 bt145.2.1 bt145.2.2.1 bt145.2.2.2.1 bt145.2.2.2.2.1 1 5).bind fun bt152 => ((acceptor_Take.f bt145.1 bt145.2.1 bt145.2.2.1 bt145.2.2.2.1 bt145.2.2.2.2.1 2 1 (⟨#[120]⟩ : ByteArray)).bind fun bt159 => ((acceptor_Take.f bt159.1 bt159.2.1 bt159.2.2.1 bt159.2.2.2.1 bt159.2.2.2.2.1 2 1 (⟨#[121]⟩ : ByteArray)).bind fun bt166 => ((acceptor_Take.f bt159.1 bt159.2.1 bt159.2.2.1 bt159.2.2.2.1 bt159.2.2.2.2.1 3 0 (⟨#[121]⟩ : ByteArray)).bind fun bt173 => (if bt145.2.2.2.2.2 = true then (if bt152.2.2.2.2.2 = true then (some false) else (if bt159.2.2.2.2.2 = true then (if bt166.2.2.2.2.2 = true then (some false) else (if bt173.2.2.2.2.2 = true then (if bt173.2.2.2.2.1.toList = ([121] : List UInt8) then (if (bt173.1 == 3 && (bt173.2.1 == 0)) = true then ((acceptor_Less.f 2 0 2 1).bind fun t180 => (if t180 = true then ((acceptor_Right.f 0 0).bind fun t181 => (some (!t181))) else (some false))) else (some false)) else (some false)) else (some false))) else (some false))) else (some false))))))) = some r := h
 clear h
 replace H := Option.bind_eq_some_iff.mp H
 obtain ⟨⟨t145, t146, t147, t148, t149, t150⟩, A10, H⟩ := H
 replace H : ((acceptor_Prepare.f t145 t146 t147 t148 t149 1 5).bind fun bt152 => ((acceptor_Take.f t145 t146 t147 t148 t149 2 1 (⟨#[120]⟩ : ByteArray)).bind fun bt159 => ((acceptor_Take.f bt159.1 bt159.2.1 bt159.2.2.1 bt159.2.2.2.1 bt159.2.2.2.2.1 2 1 (⟨#[121]⟩ : ByteArray)).bind fun bt166 => ((acceptor_Take.f bt159.1 bt159.2.1 bt159.2.2.1 bt159.2.2.2.1 bt159.2.2.2.2.1 3 0 (⟨#[121]⟩ : ByteArray)).bind fun bt173 => (if t150 = true then (if bt152.2.2.2.2.2 = true then (some false) else (if bt159.2.2.2.2.2 = true then (if bt166.2.2.2.2.2 = true then (some false) else (if bt173.2.2.2.2.2 = true then (if bt173.2.2.2.2.1.toList = ([121] : List UInt8) then (if (bt173.1 == 3 && (bt173.2.1 == 0)) = true then ((acceptor_Less.f 2 0 2 1).bind fun t180 => (if t180 = true then ((acceptor_Right.f 0 0).bind fun t181 => (some (!t181))) else (some false))) else (some false)) else (some false)) else (some false))) else (some false))) else (some false)))))) = some r := H
 have A1 := Aside0.mk A10
 clear A10
 replace H := Option.bind_eq_some_iff.mp H
 obtain ⟨⟨t152, t153, t154, t155, t156, t157⟩, A20, H⟩ := H
 replace H : ((acceptor_Take.f t145 t146 t147 t148 t149 2 1 (⟨#[120]⟩ : ByteArray)).bind fun bt159 => ((acceptor_Take.f bt159.1 bt159.2.1 bt159.2.2.1 bt159.2.2.2.1 bt159.2.2.2.2.1 2 1 (⟨#[121]⟩ : ByteArray)).bind fun bt166 => ((acceptor_Take.f bt159.1 bt159.2.1 bt159.2.2.1 bt159.2.2.2.1 bt159.2.2.2.2.1 3 0 (⟨#[121]⟩ : ByteArray)).bind fun bt173 => (if t150 = true then (if t157 = true then (some false) else (if bt159.2.2.2.2.2 = true then (if bt166.2.2.2.2.2 = true then (some false) else (if bt173.2.2.2.2.2 = true then (if bt173.2.2.2.2.1.toList = ([121] : List UInt8) then (if (bt173.1 == 3 && (bt173.2.1 == 0)) = true then ((acceptor_Less.f 2 0 2 1).bind fun t180 => (if t180 = true then ((acceptor_Right.f 0 0).bind fun t181 => (some (!t181))) else (some false))) else (some false)) else (some false)) else (some false))) else (some false))) else (some false))))) = some r := H
 have A2 := Aside0.mk A20
 clear A20
 replace H := Option.bind_eq_some_iff.mp H
 obtain ⟨⟨t159, t160, t161, t162, t163, t164⟩, A30, H⟩ := H
 replace H : ((acceptor_Take.f t159 t160 t161 t162 t163 2 1 (⟨#[121]⟩ : ByteArray)).bind fun bt166 => ((acceptor_Take.f t159 t160 t161 t162 t163 3 0 (⟨#[121]⟩ : ByteArray)).bind fun bt173 => (if t150 = true then (if t157 = true then (some false) else (if t164 = true then (if bt166.2.2.2.2.2 = true then (some false) else (if bt173.2.2.2.2.2 = true then (if bt173.2.2.2.2.1.toList = ([121] : List UInt8) then (if (bt173.1 == 3 && (bt173.2.1 == 0)) = true then ((acceptor_Less.f 2 0 2 1).bind fun t180 => (if t180 = true then ((acceptor_Right.f 0 0).bind fun t181 => (some (!t181))) else (some false))) else (some false)) else (some false)) else (some false))) else (some false))) else (some false)))) = some r := H
 have A3 := Aside0.mk A30
 clear A30
 replace H := Option.bind_eq_some_iff.mp H
 obtain ⟨⟨t166, t167, t168, t169, t170, t171⟩, A40, H⟩ := H
 replace H : ((acceptor_Take.f t159 t160 t161 t162 t163 3 0 (⟨#[121]⟩ : ByteArray)).bind fun bt173 => (if t150 = true then (if t157 = true then (some false) else (if t164 = true then (if t171 = true then (some false) else (if bt173.2.2.2.2.2 = true then (if bt173.2.2.2.2.1.toList = ([121] : List UInt8) then (if (bt173.1 == 3 && (bt173.2.1 == 0)) = true then ((acceptor_Less.f 2 0 2 1).bind fun t180 => (if t180 = true then ((acceptor_Right.f 0 0).bind fun t181 => (some (!t181))) else (some false))) else (some false)) else (some false)) else (some false))) else (some false))) else (some false))) = some r := H
 have A4 := Aside0.mk A40
 clear A40
 replace H := Option.bind_eq_some_iff.mp H
 obtain ⟨⟨t173, t174, t175, t176, t177, t178⟩, A50, H⟩ := H
 replace H : (if t150 = true then (if t157 = true then (some false) else (if t164 = true then (if t171 = true then (some false) else (if t178 = true then (if t177.toList = ([121] : List UInt8) then (if (t173 == 3 && (t174 == 0)) = true then ((acceptor_Less.f 2 0 2 1).bind fun t180 => (if t180 = true then ((acceptor_Right.f 0 0).bind fun t181 => (some (!t181))) else (some false))) else (some false)) else (some false)) else (some false))) else (some false))) else (some false)) = some r := H
 have A5 := Aside0.mk A50
 clear A50
 by_cases c6 : t150 = true
 ·subst c6
  have H1 : (if t157 = true then (some false) else (if t164 = true then (if t171 = true then (some false) else (if t178 = true then (if t177.toList = ([121] : List UInt8) then (if (t173 == 3 && (t174 == 0)) = true then ((acceptor_Less.f 2 0 2 1).bind fun t180 => (if t180 = true then ((acceptor_Right.f 0 0).bind fun t181 => (some (!t181))) else (some false))) else (some false)) else (some false)) else (some false))) else (some false))) = some r := by rw [if_pos rfl] at H; exact H
  clear H
  have H := H1
  clear H1
  by_cases c7 : t157 = true
  ·subst c7
   have H1 : (some false) = some r := by rw [if_pos rfl] at H; exact H
   clear H
   have H := H1
   clear H1
   exact absurd ((Option.some.inj H).trans hr_.out) (by decide)
  ·replace c7 := Bool.eq_false_iff.mpr c7
   subst c7
   have H1 : (if t164 = true then (if t171 = true then (some false) else (if t178 = true then (if t177.toList = ([121] : List UInt8) then (if (t173 == 3 && (t174 == 0)) = true then ((acceptor_Less.f 2 0 2 1).bind fun t180 => (if t180 = true then ((acceptor_Right.f 0 0).bind fun t181 => (some (!t181))) else (some false))) else (some false)) else (some false)) else (some false))) else (some false)) = some r := by rw [if_neg (show ¬ (false = true) by decide)] at H; exact H
   clear H
   have H := H1
   clear H1
   by_cases c8 : t164 = true
   ·subst c8
    have H1 : (if t171 = true then (some false) else (if t178 = true then (if t177.toList = ([121] : List UInt8) then (if (t173 == 3 && (t174 == 0)) = true then ((acceptor_Less.f 2 0 2 1).bind fun t180 => (if t180 = true then ((acceptor_Right.f 0 0).bind fun t181 => (some (!t181))) else (some false))) else (some false)) else (some false)) else (some false))) = some r := by rw [if_pos rfl] at H; exact H
    clear H
    have H := H1
    clear H1
    by_cases c9 : t171 = true
    ·subst c9
     have H1 : (some false) = some r := by rw [if_pos rfl] at H; exact H
     clear H
     have H := H1
     clear H1
     exact absurd ((Option.some.inj H).trans hr_.out) (by decide)
    ·replace c9 := Bool.eq_false_iff.mpr c9
     subst c9
     have H1 : (if t178 = true then (if t177.toList = ([121] : List UInt8) then (if (t173 == 3 && (t174 == 0)) = true then ((acceptor_Less.f 2 0 2 1).bind fun t180 => (if t180 = true then ((acceptor_Right.f 0 0).bind fun t181 => (some (!t181))) else (some false))) else (some false)) else (some false)) else (some false)) = some r := by rw [if_neg (show ¬ (false = true) by decide)] at H; exact H
     clear H
     have H := H1
     clear H1
     by_cases c10 : t178 = true
     ·subst c10
      have H1 : (if t177.toList = ([121] : List UInt8) then (if (t173 == 3 && (t174 == 0)) = true then ((acceptor_Less.f 2 0 2 1).bind fun t180 => (if t180 = true then ((acceptor_Right.f 0 0).bind fun t181 => (some (!t181))) else (some false))) else (some false)) else (some false)) = some r := by rw [if_pos rfl] at H; exact H
      clear H
      have H := H1
      clear H1
      by_cases c11 : t177.toList = ([121] : List UInt8)
      ·rw [if_pos c11] at H
       have c11b0 : (t177.toList == ([121] : List UInt8)) = true := beq_iff_eq.mpr c11
       have c11b1 : (t177.toList != ([121] : List UInt8)) = false := bne_eq_false_iff_eq.mpr c11
       clear c11
       by_cases c12 : (t173 == 3 && (t174 == 0)) = true
       ·rw [if_pos c12] at H
        have c12b0 : (t173 == 3 && (t174 == 0)) = true := c12
        (try (have c12b1 : decide (t173 = 3 && (t174 == 0)) = true := by simpa using c12))
        (try (have c12b2 : (t173 == 3 && (t174 == 0)) = true := by simpa using c12))
        (try (have c12b3 : (!(t173 == 3) || (!(t174 == 0))) = false := by have e_ : (!(t173 == 3) || (!(t174 == 0))) = (!(t173 == 3 && (t174 == 0))) := (by simp only [Bool.not_or, Bool.not_and, Bool.not_not]); rw [e_]; first | (simp only [c12, Bool.not_true]; done) | (simp only [Bool.eq_false_iff.mpr c12, Bool.not_false]; done)))
        clear c12
        replace H := Option.bind_eq_some_iff.mp H
        obtain ⟨t180, A130, H⟩ := H
        replace H : (if t180 = true then ((acceptor_Right.f 0 0).bind fun t181 => (some (!t181))) else (some false)) = some r := H
        have A13 := Aside0.mk A130
        clear A130
        by_cases c14 : t180 = true
        ·subst c14
         have H1 : ((acceptor_Right.f 0 0).bind fun t181 => (some (!t181))) = some r := by rw [if_pos rfl] at H; exact H
         clear H
         have H := H1
         clear H1
         replace H := Option.bind_eq_some_iff.mp H
         obtain ⟨t181, A150, H⟩ := H
         replace H : (some (!t181)) = some r := H
         have A15 := Aside0.mk A150
         clear A150
         obtain rfl := Option.some.inj H
         go_enter Tryd.func6, Tryd.ntmps6
         go_wp2_with (first | ((with_reducible refine gate_dst (N := 1) rfl ?_); refine box_event ?hg (N := 1) ?hd (cs := #[.int .i64 0, .int .i64 0]) (t := 23) ?hr ?_; (case hd => rfl); (case hg => rfl); (case hr => first | (go_simp; done) | (go_simp; rfl)); intro gb144 hg w16 hbox hb; have n0_ := Aside0.mk (below_step bw hb); have n1_ := Aside0.mk (hbox); have n2_ := Aside0.mk ((g1 hg bw : w.heap.size ≤ gb144)); have n3_ := Aside0.mk ((g1 hg bw : w.heap.size ≤ gb144)); clear HB; have HB := n0_; have BK144 := n1_; have GW144 := n2_; have GE144 := n3_; clear n0_ n1_ n2_ n3_; clear hb hbox hg; have hcz17_0 := bc2_0 BK144.out; have hcz17_1 := bc2_1 BK144.out; have hfz17_0 := blk_frozen BK144.out 0; have hfz17_1 := blk_frozen BK144.out 1) | ((with_reducible refine gate_callee (f := 11) rfl ?_); refine goesL_ (some 16) rfl rfl Tryd.func11 (by kernel_rfl) rfl #[.agg #[.int .i64 0, .int .i64 0, .int .i64 0, .int .i64 0, .string (⟨#[]⟩ : ByteArray)], .agg #[.int .i64 2, .int .i64 1]] rfl am ?_; (with_reducible refine (acceptor_Prepare.calls 0 0 0 0 (⟨#[]⟩ : ByteArray) 2 1 t145 t146 t147 t148 t149 true _ A1.out).mono ?_); rintro e w18 ⟨rfl, hb⟩; refine ⟨_, rfl, ?_⟩; have n0_ := Aside0.mk (blk_below (g := gb144) (o := .cells #[.int .i64 2, .int .i64 1] 23 (0, 0)) (by (with_reducible repeat (first | refine blk_drewN ?_ _ | refine blk_drew ?_ | refine blk_alloc ?_ _)); refine blk_put (cs := #[.int .i64 2, .int .i64 0]) ?_ 1 _ rfl; (with_reducible repeat (first | refine blk_drewN ?_ _ | refine blk_drew ?_ | refine blk_alloc ?_ _)); refine blk_put (cs := #[.int .i64 0, .int .i64 0]) ?_ 0 _ rfl; (with_reducible repeat (first | refine blk_drewN ?_ _ | refine blk_drew ?_ | refine blk_alloc ?_ _)); exact BK144.out) hb); have n1_ := Aside0.mk (below_step bw hb); clear BK144; clear HB; have BK144 := n0_; have HB := n1_; clear n0_ n1_; (try clear hb); (try clear hb2); (try clear hk); (try clear hi)) | ((with_reducible refine gate_dst (N := 2) rfl ?_); refine box_event ?hg (N := 2) ?hd (cs := #[.int .i64 0, .int .i64 0, .int .i64 0, .int .i64 0, .string (⟨#[]⟩ : ByteArray)]) (t := 25) ?hr ?_; (case hd => rfl); (case hg => rfl); (case hr => first | (go_simp; done) | (go_simp; rfl)); intro gb151 hg w19 hbox hb; have n0_ := Aside0.mk (nb BK144.out hb); have n1_ := Aside0.mk (below_step bw hb); have n2_ := Aside0.mk (hbox); have n3_ := Aside0.mk ((g1 hg bw : w.heap.size ≤ gb151)); have n4_ := Aside0.mk ((g1 hg bw : w.heap.size ≤ gb151)); have n5_ := Aside0.mk ((n1 hg BK144.out : gb144 ≠ gb151)); have n6_ := Aside0.mk ((n2 hg BK144.out : gb151 ≠ gb144)); clear BK144; clear HB; have BK144 := n0_; have HB := n1_; have BK151 := n2_; have GW151 := n3_; have GE151 := n4_; have NB144_151 := n5_; have NB151_144 := n6_; clear n0_ n1_ n2_ n3_ n4_ n5_ n6_; clear hb hbox hg; have hnb20 := NB151_144.out; have hnc20 := NB144_151.out; have hcz21_0 := bc5_0 BK151.out; have hcz21_1 := bc5_1 BK151.out; have hcz21_2 := bc5_2 BK151.out; have hcz21_3 := bc5_3 BK151.out; have hcz21_4 := bc5_4 BK151.out; have hfz21_0 := blk_frozen BK151.out 0; have hfz21_1 := blk_frozen BK151.out 1; have hfz21_2 := blk_frozen BK151.out 2; have hfz21_3 := blk_frozen BK151.out 3; have hfz21_4 := blk_frozen BK151.out 4) | ((with_reducible refine gate_callee (f := 11) rfl ?_); refine goesL_ (some 22) rfl rfl Tryd.func11 (by kernel_rfl) rfl #[.agg #[.int .i64 t145, .int .i64 t146, .int .i64 t147, .int .i64 t148, .string t149], .agg #[.int .i64 1, .int .i64 5]] rfl am ?_; (with_reducible refine (acceptor_Prepare.calls t145 t146 t147 t148 t149 1 5 t152 t153 t154 t155 t156 false _ A2.out).mono ?_); rintro e w22 ⟨rfl, hb⟩; refine ⟨_, rfl, ?_⟩; have n0_ := Aside0.mk (blk_below (g := gb144) (o := .cells #[.int .i64 2, .int .i64 1] 23 (0, 0)) (by (with_reducible repeat (first | refine blk_drewN ?_ _ | refine blk_drew ?_ | refine blk_alloc ?_ _ | refine blk_far ?_ NB144_151.out _)); exact BK144.out) hb); have n1_ := Aside0.mk (blk_below (g := gb151) (o := .cells #[.int .i64 t145, .int .i64 t146, .int .i64 t147, .int .i64 t148, .string t149] 25 (0, 0)) (by (with_reducible repeat (first | refine blk_drewN ?_ _ | refine blk_drew ?_ | refine blk_alloc ?_ _)); refine blk_put (cs := #[.int .i64 t145, .int .i64 t146, .int .i64 t147, .int .i64 t148, .string (⟨#[]⟩ : ByteArray)]) ?_ 4 _ rfl; (with_reducible repeat (first | refine blk_drewN ?_ _ | refine blk_drew ?_ | refine blk_alloc ?_ _)); refine blk_put (cs := #[.int .i64 t145, .int .i64 t146, .int .i64 t147, .int .i64 0, .string (⟨#[]⟩ : ByteArray)]) ?_ 3 _ rfl; (with_reducible repeat (first | refine blk_drewN ?_ _ | refine blk_drew ?_ | refine blk_alloc ?_ _)); refine blk_put (cs := #[.int .i64 t145, .int .i64 t146, .int .i64 0, .int .i64 0, .string (⟨#[]⟩ : ByteArray)]) ?_ 2 _ rfl; (with_reducible repeat (first | refine blk_drewN ?_ _ | refine blk_drew ?_ | refine blk_alloc ?_ _)); refine blk_put (cs := #[.int .i64 t145, .int .i64 0, .int .i64 0, .int .i64 0, .string (⟨#[]⟩ : ByteArray)]) ?_ 1 _ rfl; (with_reducible repeat (first | refine blk_drewN ?_ _ | refine blk_drew ?_ | refine blk_alloc ?_ _)); refine blk_put (cs := #[.int .i64 0, .int .i64 0, .int .i64 0, .int .i64 0, .string (⟨#[]⟩ : ByteArray)]) ?_ 0 _ rfl; (with_reducible repeat (first | refine blk_drewN ?_ _ | refine blk_drew ?_ | refine blk_alloc ?_ _)); exact BK151.out) hb); have n2_ := Aside0.mk (below_step bw hb); clear BK144; clear BK151; clear HB; have BK144 := n0_; have BK151 := n1_; have HB := n2_; clear n0_ n1_ n2_; (try clear hb); (try clear hb2); (try clear hk); (try clear hi)) | ((with_reducible refine gate_dst (N := 4) rfl ?_); refine box_event ?hg (N := 4) ?hd (cs := #[.int .i64 0, .int .i64 0, .int .i64 0, .int .i64 0, .string (⟨#[]⟩ : ByteArray)]) (t := 25) ?hr ?_; (case hd => rfl); (case hg => rfl); (case hr => first | (go_simp; done) | (go_simp; rfl)); intro gb158 hg w23 hbox hb; have n0_ := Aside0.mk (nb BK144.out hb); have n1_ := Aside0.mk (nb BK151.out hb); have n2_ := Aside0.mk (below_step bw hb); have n3_ := Aside0.mk (hbox); have n4_ := Aside0.mk ((g1 hg bw : w.heap.size ≤ gb158)); have n5_ := Aside0.mk ((g1 hg bw : w.heap.size ≤ gb158)); have n6_ := Aside0.mk ((n1 hg BK144.out : gb144 ≠ gb158)); have n7_ := Aside0.mk ((n2 hg BK144.out : gb158 ≠ gb144)); have n8_ := Aside0.mk ((n1 hg BK151.out : gb151 ≠ gb158)); have n9_ := Aside0.mk ((n2 hg BK151.out : gb158 ≠ gb151)); clear BK144; clear BK151; clear HB; have BK144 := n0_; have BK151 := n1_; have HB := n2_; have BK158 := n3_; have GW158 := n4_; have GE158 := n5_; have NB144_158 := n6_; have NB158_144 := n7_; have NB151_158 := n8_; have NB158_151 := n9_; clear n0_ n1_ n2_ n3_ n4_ n5_ n6_ n7_ n8_ n9_; clear hb hbox hg; have hnb24 := NB158_144.out; have hnc24 := NB144_158.out; have hnb25 := NB158_151.out; have hnc25 := NB151_158.out; have hcz26_0 := bc5_0 BK158.out; have hcz26_1 := bc5_1 BK158.out; have hcz26_2 := bc5_2 BK158.out; have hcz26_3 := bc5_3 BK158.out; have hcz26_4 := bc5_4 BK158.out; have hfz26_0 := blk_frozen BK158.out 0; have hfz26_1 := blk_frozen BK158.out 1; have hfz26_2 := blk_frozen BK158.out 2; have hfz26_3 := blk_frozen BK158.out 3; have hfz26_4 := blk_frozen BK158.out 4; have hcz27_0 := bc5_0 BK151.out; have hcz27_1 := bc5_1 BK151.out; have hcz27_2 := bc5_2 BK151.out; have hcz27_3 := bc5_3 BK151.out; have hcz27_4 := bc5_4 BK151.out; have hfz27_0 := blk_frozen BK151.out 0; have hfz27_1 := blk_frozen BK151.out 1; have hfz27_2 := blk_frozen BK151.out 2; have hfz27_3 := blk_frozen BK151.out 3; have hfz27_4 := blk_frozen BK151.out 4; have hcz28_0 := bc2_0 BK144.out; have hcz28_1 := bc2_1 BK144.out; have hfz28_0 := blk_frozen BK144.out 0; have hfz28_1 := blk_frozen BK144.out 1) | ((with_reducible refine gate_callee (f := 12) rfl ?_); refine goesL_ (some 28) rfl rfl Tryd.func12 (by kernel_rfl) rfl #[.agg #[.int .i64 t145, .int .i64 t146, .int .i64 t147, .int .i64 t148, .string t149], .agg #[.int .i64 2, .int .i64 1], .string (⟨#[120]⟩ : ByteArray)] rfl am ?_; (with_reducible refine (acceptor_Take.calls t145 t146 t147 t148 t149 2 1 (⟨#[120]⟩ : ByteArray) t159 t160 t161 t162 t163 true _ A3.out).mono ?_); rintro e w29 ⟨rfl, hb⟩; refine ⟨_, rfl, ?_⟩; have n0_ := Aside0.mk (blk_below (g := gb144) (o := .cells #[.int .i64 2, .int .i64 1] 23 (0, 0)) (by (with_reducible repeat (first | refine blk_drewN ?_ _ | refine blk_drew ?_ | refine blk_alloc ?_ _ | refine blk_far ?_ NB144_158.out _)); exact BK144.out) hb); have n1_ := Aside0.mk (blk_below (g := gb151) (o := .cells #[.int .i64 t145, .int .i64 t146, .int .i64 t147, .int .i64 t148, .string t149] 25 (0, 0)) (by (with_reducible repeat (first | refine blk_drewN ?_ _ | refine blk_drew ?_ | refine blk_alloc ?_ _ | refine blk_far ?_ NB151_158.out _)); exact BK151.out) hb); have n2_ := Aside0.mk (blk_below (g := gb158) (o := .cells #[.int .i64 t152, .int .i64 t153, .int .i64 t154, .int .i64 t155, .string t156] 25 (0, 0)) (by (with_reducible repeat (first | refine blk_drewN ?_ _ | refine blk_drew ?_ | refine blk_alloc ?_ _)); refine blk_put (cs := #[.int .i64 t152, .int .i64 t153, .int .i64 t154, .int .i64 t155, .string (⟨#[]⟩ : ByteArray)]) ?_ 4 _ rfl; (with_reducible repeat (first | refine blk_drewN ?_ _ | refine blk_drew ?_ | refine blk_alloc ?_ _)); refine blk_put (cs := #[.int .i64 t152, .int .i64 t153, .int .i64 t154, .int .i64 0, .string (⟨#[]⟩ : ByteArray)]) ?_ 3 _ rfl; (with_reducible repeat (first | refine blk_drewN ?_ _ | refine blk_drew ?_ | refine blk_alloc ?_ _)); refine blk_put (cs := #[.int .i64 t152, .int .i64 t153, .int .i64 0, .int .i64 0, .string (⟨#[]⟩ : ByteArray)]) ?_ 2 _ rfl; (with_reducible repeat (first | refine blk_drewN ?_ _ | refine blk_drew ?_ | refine blk_alloc ?_ _)); refine blk_put (cs := #[.int .i64 t152, .int .i64 0, .int .i64 0, .int .i64 0, .string (⟨#[]⟩ : ByteArray)]) ?_ 1 _ rfl; (with_reducible repeat (first | refine blk_drewN ?_ _ | refine blk_drew ?_ | refine blk_alloc ?_ _)); refine blk_put (cs := #[.int .i64 0, .int .i64 0, .int .i64 0, .int .i64 0, .string (⟨#[]⟩ : ByteArray)]) ?_ 0 _ rfl; (with_reducible repeat (first | refine blk_drewN ?_ _ | refine blk_drew ?_ | refine blk_alloc ?_ _)); exact BK158.out) hb); have n3_ := Aside0.mk (below_step bw hb); clear BK144; clear BK151; clear BK158; clear HB; have BK144 := n0_; have BK151 := n1_; have BK158 := n2_; have HB := n3_; clear n0_ n1_ n2_ n3_; (try clear hb); (try clear hb2); (try clear hk); (try clear hi)) | ((with_reducible refine gate_dst (N := 6) rfl ?_); refine box_event ?hg (N := 6) ?hd (cs := #[.int .i64 0, .int .i64 0, .int .i64 0, .int .i64 0, .string (⟨#[]⟩ : ByteArray)]) (t := 25) ?hr ?_; (case hd => rfl); (case hg => rfl); (case hr => first | (go_simp; done) | (go_simp; rfl)); intro gb165 hg w30 hbox hb; have n0_ := Aside0.mk (nb BK144.out hb); have n1_ := Aside0.mk (nb BK151.out hb); have n2_ := Aside0.mk (nb BK158.out hb); have n3_ := Aside0.mk (below_step bw hb); have n4_ := Aside0.mk (hbox); have n5_ := Aside0.mk ((g1 hg bw : w.heap.size ≤ gb165)); have n6_ := Aside0.mk ((g1 hg bw : w.heap.size ≤ gb165)); have n7_ := Aside0.mk ((n1 hg BK144.out : gb144 ≠ gb165)); have n8_ := Aside0.mk ((n2 hg BK144.out : gb165 ≠ gb144)); have n9_ := Aside0.mk ((n1 hg BK151.out : gb151 ≠ gb165)); have n10_ := Aside0.mk ((n2 hg BK151.out : gb165 ≠ gb151)); have n11_ := Aside0.mk ((n1 hg BK158.out : gb158 ≠ gb165)); have n12_ := Aside0.mk ((n2 hg BK158.out : gb165 ≠ gb158)); clear BK144; clear BK151; clear BK158; clear HB; have BK144 := n0_; have BK151 := n1_; have BK158 := n2_; have HB := n3_; have BK165 := n4_; have GW165 := n5_; have GE165 := n6_; have NB144_165 := n7_; have NB165_144 := n8_; have NB151_165 := n9_; have NB165_151 := n10_; have NB158_165 := n11_; have NB165_158 := n12_; clear n0_ n1_ n2_ n3_ n4_ n5_ n6_ n7_ n8_ n9_ n10_ n11_ n12_; clear hb hbox hg; have hnb31 := NB165_144.out; have hnc31 := NB144_165.out; have hnb32 := NB165_151.out; have hnc32 := NB151_165.out; have hnb33 := NB165_158.out; have hnc33 := NB158_165.out; have hcz34_0 := bc5_0 BK165.out; have hcz34_1 := bc5_1 BK165.out; have hcz34_2 := bc5_2 BK165.out; have hcz34_3 := bc5_3 BK165.out; have hcz34_4 := bc5_4 BK165.out; have hfz34_0 := blk_frozen BK165.out 0; have hfz34_1 := blk_frozen BK165.out 1; have hfz34_2 := blk_frozen BK165.out 2; have hfz34_3 := blk_frozen BK165.out 3; have hfz34_4 := blk_frozen BK165.out 4; have hcz35_0 := bc2_0 BK144.out; have hcz35_1 := bc2_1 BK144.out; have hfz35_0 := blk_frozen BK144.out 0; have hfz35_1 := blk_frozen BK144.out 1) | ((with_reducible refine gate_callee (f := 12) rfl ?_); refine goesL_ (some 34) rfl rfl Tryd.func12 (by kernel_rfl) rfl #[.agg #[.int .i64 t159, .int .i64 t160, .int .i64 t161, .int .i64 t162, .string t163], .agg #[.int .i64 2, .int .i64 1], .string (⟨#[121]⟩ : ByteArray)] rfl am ?_; (with_reducible refine (acceptor_Take.calls t159 t160 t161 t162 t163 2 1 (⟨#[121]⟩ : ByteArray) t166 t167 t168 t169 t170 false _ A4.out).mono ?_); rintro e w36 ⟨rfl, hb⟩; refine ⟨_, rfl, ?_⟩; have n0_ := Aside0.mk (blk_below (g := gb144) (o := .cells #[.int .i64 2, .int .i64 1] 23 (0, 0)) (by (with_reducible repeat (first | refine blk_drewN ?_ _ | refine blk_drew ?_ | refine blk_alloc ?_ _ | refine blk_far ?_ NB144_165.out _)); exact BK144.out) hb); have n1_ := Aside0.mk (blk_below (g := gb151) (o := .cells #[.int .i64 t145, .int .i64 t146, .int .i64 t147, .int .i64 t148, .string t149] 25 (0, 0)) (by (with_reducible repeat (first | refine blk_drewN ?_ _ | refine blk_drew ?_ | refine blk_alloc ?_ _ | refine blk_far ?_ NB151_165.out _)); exact BK151.out) hb); have n2_ := Aside0.mk (blk_below (g := gb158) (o := .cells #[.int .i64 t152, .int .i64 t153, .int .i64 t154, .int .i64 t155, .string t156] 25 (0, 0)) (by (with_reducible repeat (first | refine blk_drewN ?_ _ | refine blk_drew ?_ | refine blk_alloc ?_ _ | refine blk_far ?_ NB158_165.out _)); exact BK158.out) hb); have n3_ := Aside0.mk (blk_below (g := gb165) (o := .cells #[.int .i64 t159, .int .i64 t160, .int .i64 t161, .int .i64 t162, .string t163] 25 (0, 0)) (by (with_reducible repeat (first | refine blk_drewN ?_ _ | refine blk_drew ?_ | refine blk_alloc ?_ _)); refine blk_put (cs := #[.int .i64 t159, .int .i64 t160, .int .i64 t161, .int .i64 t162, .string (⟨#[]⟩ : ByteArray)]) ?_ 4 _ rfl; (with_reducible repeat (first | refine blk_drewN ?_ _ | refine blk_drew ?_ | refine blk_alloc ?_ _)); refine blk_put (cs := #[.int .i64 t159, .int .i64 t160, .int .i64 t161, .int .i64 0, .string (⟨#[]⟩ : ByteArray)]) ?_ 3 _ rfl; (with_reducible repeat (first | refine blk_drewN ?_ _ | refine blk_drew ?_ | refine blk_alloc ?_ _)); refine blk_put (cs := #[.int .i64 t159, .int .i64 t160, .int .i64 0, .int .i64 0, .string (⟨#[]⟩ : ByteArray)]) ?_ 2 _ rfl; (with_reducible repeat (first | refine blk_drewN ?_ _ | refine blk_drew ?_ | refine blk_alloc ?_ _)); refine blk_put (cs := #[.int .i64 t159, .int .i64 0, .int .i64 0, .int .i64 0, .string (⟨#[]⟩ : ByteArray)]) ?_ 1 _ rfl; (with_reducible repeat (first | refine blk_drewN ?_ _ | refine blk_drew ?_ | refine blk_alloc ?_ _)); refine blk_put (cs := #[.int .i64 0, .int .i64 0, .int .i64 0, .int .i64 0, .string (⟨#[]⟩ : ByteArray)]) ?_ 0 _ rfl; (with_reducible repeat (first | refine blk_drewN ?_ _ | refine blk_drew ?_ | refine blk_alloc ?_ _)); exact BK165.out) hb); have n4_ := Aside0.mk (below_step bw hb); clear BK144; clear BK151; clear BK158; clear BK165; clear HB; have BK144 := n0_; have BK151 := n1_; have BK158 := n2_; have BK165 := n3_; have HB := n4_; clear n0_ n1_ n2_ n3_ n4_; (try clear hb); (try clear hb2); (try clear hk); (try clear hi)) | ((with_reducible refine gate_dst (N := 8) rfl ?_); refine box_event ?hg (N := 8) ?hd (cs := #[.int .i64 0, .int .i64 0, .int .i64 0, .int .i64 0, .string (⟨#[]⟩ : ByteArray)]) (t := 25) ?hr ?_; (case hd => rfl); (case hg => rfl); (case hr => first | (go_simp; done) | (go_simp; rfl)); intro gb172 hg w37 hbox hb; have n0_ := Aside0.mk (nb BK144.out hb); have n1_ := Aside0.mk (nb BK151.out hb); have n2_ := Aside0.mk (nb BK158.out hb); have n3_ := Aside0.mk (nb BK165.out hb); have n4_ := Aside0.mk (below_step bw hb); have n5_ := Aside0.mk (hbox); have n6_ := Aside0.mk ((g1 hg bw : w.heap.size ≤ gb172)); have n7_ := Aside0.mk ((g1 hg bw : w.heap.size ≤ gb172)); have n8_ := Aside0.mk ((n1 hg BK144.out : gb144 ≠ gb172)); have n9_ := Aside0.mk ((n2 hg BK144.out : gb172 ≠ gb144)); have n10_ := Aside0.mk ((n1 hg BK151.out : gb151 ≠ gb172)); have n11_ := Aside0.mk ((n2 hg BK151.out : gb172 ≠ gb151)); have n12_ := Aside0.mk ((n1 hg BK158.out : gb158 ≠ gb172)); have n13_ := Aside0.mk ((n2 hg BK158.out : gb172 ≠ gb158)); have n14_ := Aside0.mk ((n1 hg BK165.out : gb165 ≠ gb172)); have n15_ := Aside0.mk ((n2 hg BK165.out : gb172 ≠ gb165)); clear BK144; clear BK151; clear BK158; clear BK165; clear HB; have BK144 := n0_; have BK151 := n1_; have BK158 := n2_; have BK165 := n3_; have HB := n4_; have BK172 := n5_; have GW172 := n6_; have GE172 := n7_; have NB144_172 := n8_; have NB172_144 := n9_; have NB151_172 := n10_; have NB172_151 := n11_; have NB158_172 := n12_; have NB172_158 := n13_; have NB165_172 := n14_; have NB172_165 := n15_; clear n0_ n1_ n2_ n3_ n4_ n5_ n6_ n7_ n8_ n9_ n10_ n11_ n12_ n13_ n14_ n15_; clear hb hbox hg; have hnb38 := NB172_144.out; have hnc38 := NB144_172.out; have hnb39 := NB172_151.out; have hnc39 := NB151_172.out; have hnb40 := NB172_158.out; have hnc40 := NB158_172.out; have hnb41 := NB172_165.out; have hnc41 := NB165_172.out; have hcz42_0 := bc5_0 BK172.out; have hcz42_1 := bc5_1 BK172.out; have hcz42_2 := bc5_2 BK172.out; have hcz42_3 := bc5_3 BK172.out; have hcz42_4 := bc5_4 BK172.out; have hfz42_0 := blk_frozen BK172.out 0; have hfz42_1 := blk_frozen BK172.out 1; have hfz42_2 := blk_frozen BK172.out 2; have hfz42_3 := blk_frozen BK172.out 3; have hfz42_4 := blk_frozen BK172.out 4; have hcz43_0 := bc5_0 BK165.out; have hcz43_1 := bc5_1 BK165.out; have hcz43_2 := bc5_2 BK165.out; have hcz43_3 := bc5_3 BK165.out; have hcz43_4 := bc5_4 BK165.out; have hfz43_0 := blk_frozen BK165.out 0; have hfz43_1 := blk_frozen BK165.out 1; have hfz43_2 := blk_frozen BK165.out 2; have hfz43_3 := blk_frozen BK165.out 3; have hfz43_4 := blk_frozen BK165.out 4) | ((with_reducible refine gate_callee (f := 12) rfl ?_); refine goesL_ (some 40) rfl rfl Tryd.func12 (by kernel_rfl) rfl #[.agg #[.int .i64 t159, .int .i64 t160, .int .i64 t161, .int .i64 t162, .string t163], .agg #[.int .i64 3, .int .i64 0], .string (⟨#[121]⟩ : ByteArray)] rfl am ?_; (with_reducible refine (acceptor_Take.calls t159 t160 t161 t162 t163 3 0 (⟨#[121]⟩ : ByteArray) t173 t174 t175 t176 t177 true _ A5.out).mono ?_); rintro e w44 ⟨rfl, hb⟩; refine ⟨_, rfl, ?_⟩; have n0_ := Aside0.mk (blk_below (g := gb144) (o := .cells #[.int .i64 2, .int .i64 1] 23 (0, 0)) (by (with_reducible repeat (first | refine blk_drewN ?_ _ | refine blk_drew ?_ | refine blk_alloc ?_ _ | refine blk_far ?_ NB144_172.out _)); exact BK144.out) hb); have n1_ := Aside0.mk (blk_below (g := gb151) (o := .cells #[.int .i64 t145, .int .i64 t146, .int .i64 t147, .int .i64 t148, .string t149] 25 (0, 0)) (by (with_reducible repeat (first | refine blk_drewN ?_ _ | refine blk_drew ?_ | refine blk_alloc ?_ _ | refine blk_far ?_ NB151_172.out _)); exact BK151.out) hb); have n2_ := Aside0.mk (blk_below (g := gb158) (o := .cells #[.int .i64 t152, .int .i64 t153, .int .i64 t154, .int .i64 t155, .string t156] 25 (0, 0)) (by (with_reducible repeat (first | refine blk_drewN ?_ _ | refine blk_drew ?_ | refine blk_alloc ?_ _ | refine blk_far ?_ NB158_172.out _)); exact BK158.out) hb); have n3_ := Aside0.mk (blk_below (g := gb165) (o := .cells #[.int .i64 t159, .int .i64 t160, .int .i64 t161, .int .i64 t162, .string t163] 25 (0, 0)) (by (with_reducible repeat (first | refine blk_drewN ?_ _ | refine blk_drew ?_ | refine blk_alloc ?_ _ | refine blk_far ?_ NB165_172.out _)); exact BK165.out) hb); have n4_ := Aside0.mk (blk_below (g := gb172) (o := .cells #[.int .i64 t166, .int .i64 t167, .int .i64 t168, .int .i64 t169, .string t170] 25 (0, 0)) (by (with_reducible repeat (first | refine blk_drewN ?_ _ | refine blk_drew ?_ | refine blk_alloc ?_ _)); refine blk_put (cs := #[.int .i64 t166, .int .i64 t167, .int .i64 t168, .int .i64 t169, .string (⟨#[]⟩ : ByteArray)]) ?_ 4 _ rfl; (with_reducible repeat (first | refine blk_drewN ?_ _ | refine blk_drew ?_ | refine blk_alloc ?_ _)); refine blk_put (cs := #[.int .i64 t166, .int .i64 t167, .int .i64 t168, .int .i64 0, .string (⟨#[]⟩ : ByteArray)]) ?_ 3 _ rfl; (with_reducible repeat (first | refine blk_drewN ?_ _ | refine blk_drew ?_ | refine blk_alloc ?_ _)); refine blk_put (cs := #[.int .i64 t166, .int .i64 t167, .int .i64 0, .int .i64 0, .string (⟨#[]⟩ : ByteArray)]) ?_ 2 _ rfl; (with_reducible repeat (first | refine blk_drewN ?_ _ | refine blk_drew ?_ | refine blk_alloc ?_ _)); refine blk_put (cs := #[.int .i64 t166, .int .i64 0, .int .i64 0, .int .i64 0, .string (⟨#[]⟩ : ByteArray)]) ?_ 1 _ rfl; (with_reducible repeat (first | refine blk_drewN ?_ _ | refine blk_drew ?_ | refine blk_alloc ?_ _)); refine blk_put (cs := #[.int .i64 0, .int .i64 0, .int .i64 0, .int .i64 0, .string (⟨#[]⟩ : ByteArray)]) ?_ 0 _ rfl; (with_reducible repeat (first | refine blk_drewN ?_ _ | refine blk_drew ?_ | refine blk_alloc ?_ _)); exact BK172.out) hb); have n5_ := Aside0.mk (below_step bw hb); clear BK144; clear BK151; clear BK158; clear BK165; clear BK172; clear HB; have BK144 := n0_; have BK151 := n1_; have BK158 := n2_; have BK165 := n3_; have BK172 := n4_; have HB := n5_; clear n0_ n1_ n2_ n3_ n4_ n5_; (try clear hb); (try clear hb2); (try clear hk); (try clear hi)) | ((with_reducible refine gate_dst (N := 10) rfl ?_); refine box_event ?hg (N := 10) ?hd (cs := #[.int .i64 0, .int .i64 0, .int .i64 0, .int .i64 0, .string (⟨#[]⟩ : ByteArray)]) (t := 25) ?hr ?_; (case hd => rfl); (case hg => rfl); (case hr => first | (go_simp; done) | (go_simp; rfl)); intro gb179 hg w45 hbox hb; have n0_ := Aside0.mk (nb BK144.out hb); have n1_ := Aside0.mk (nb BK151.out hb); have n2_ := Aside0.mk (nb BK158.out hb); have n3_ := Aside0.mk (nb BK165.out hb); have n4_ := Aside0.mk (nb BK172.out hb); have n5_ := Aside0.mk (below_step bw hb); have n6_ := Aside0.mk (hbox); have n7_ := Aside0.mk ((g1 hg bw : w.heap.size ≤ gb179)); have n8_ := Aside0.mk ((g1 hg bw : w.heap.size ≤ gb179)); have n9_ := Aside0.mk ((n1 hg BK144.out : gb144 ≠ gb179)); have n10_ := Aside0.mk ((n2 hg BK144.out : gb179 ≠ gb144)); have n11_ := Aside0.mk ((n1 hg BK151.out : gb151 ≠ gb179)); have n12_ := Aside0.mk ((n2 hg BK151.out : gb179 ≠ gb151)); have n13_ := Aside0.mk ((n1 hg BK158.out : gb158 ≠ gb179)); have n14_ := Aside0.mk ((n2 hg BK158.out : gb179 ≠ gb158)); have n15_ := Aside0.mk ((n1 hg BK165.out : gb165 ≠ gb179)); have n16_ := Aside0.mk ((n2 hg BK165.out : gb179 ≠ gb165)); have n17_ := Aside0.mk ((n1 hg BK172.out : gb172 ≠ gb179)); have n18_ := Aside0.mk ((n2 hg BK172.out : gb179 ≠ gb172)); clear BK144; clear BK151; clear BK158; clear BK165; clear BK172; clear HB; have BK144 := n0_; have BK151 := n1_; have BK158 := n2_; have BK165 := n3_; have BK172 := n4_; have HB := n5_; have BK179 := n6_; have GW179 := n7_; have GE179 := n8_; have NB144_179 := n9_; have NB179_144 := n10_; have NB151_179 := n11_; have NB179_151 := n12_; have NB158_179 := n13_; have NB179_158 := n14_; have NB165_179 := n15_; have NB179_165 := n16_; have NB172_179 := n17_; have NB179_172 := n18_; clear n0_ n1_ n2_ n3_ n4_ n5_ n6_ n7_ n8_ n9_ n10_ n11_ n12_ n13_ n14_ n15_ n16_ n17_ n18_; clear hb hbox hg; have hnb46 := NB179_144.out; have hnc46 := NB144_179.out; have hnb47 := NB179_151.out; have hnc47 := NB151_179.out; have hnb48 := NB179_158.out; have hnc48 := NB158_179.out; have hnb49 := NB179_165.out; have hnc49 := NB165_179.out; have hnb50 := NB179_172.out; have hnc50 := NB172_179.out; have hcz51_0 := bc5_0 BK179.out; have hcz51_1 := bc5_1 BK179.out; have hcz51_2 := bc5_2 BK179.out; have hcz51_3 := bc5_3 BK179.out; have hcz51_4 := bc5_4 BK179.out; have hfz51_0 := blk_frozen BK179.out 0; have hfz51_1 := blk_frozen BK179.out 1; have hfz51_2 := blk_frozen BK179.out 2; have hfz51_3 := blk_frozen BK179.out 3; have hfz51_4 := blk_frozen BK179.out 4; have hcz52_0 := bc2_0 BK144.out; have hcz52_1 := bc2_1 BK144.out; have hfz52_0 := blk_frozen BK144.out 0; have hfz52_1 := blk_frozen BK144.out 1) | (go_at_call 13; (with_reducible refine (acceptor_Less.calls 2 0 2 1 true _ A13.out).mono ?_); rintro e w53 ⟨rfl, hb⟩; have n0_ := Aside0.mk (blk_below (g := gb144) (o := .cells #[.int .i64 2, .int .i64 1] 23 (0, 0)) (by (with_reducible repeat (first | refine blk_drewN ?_ _ | refine blk_drew ?_ | refine blk_alloc ?_ _ | refine blk_far ?_ NB144_179.out _)); exact BK144.out) hb); have n1_ := Aside0.mk (blk_below (g := gb151) (o := .cells #[.int .i64 t145, .int .i64 t146, .int .i64 t147, .int .i64 t148, .string t149] 25 (0, 0)) (by (with_reducible repeat (first | refine blk_drewN ?_ _ | refine blk_drew ?_ | refine blk_alloc ?_ _ | refine blk_far ?_ NB151_179.out _)); exact BK151.out) hb); have n2_ := Aside0.mk (blk_below (g := gb158) (o := .cells #[.int .i64 t152, .int .i64 t153, .int .i64 t154, .int .i64 t155, .string t156] 25 (0, 0)) (by (with_reducible repeat (first | refine blk_drewN ?_ _ | refine blk_drew ?_ | refine blk_alloc ?_ _ | refine blk_far ?_ NB158_179.out _)); exact BK158.out) hb); have n3_ := Aside0.mk (blk_below (g := gb165) (o := .cells #[.int .i64 t159, .int .i64 t160, .int .i64 t161, .int .i64 t162, .string t163] 25 (0, 0)) (by (with_reducible repeat (first | refine blk_drewN ?_ _ | refine blk_drew ?_ | refine blk_alloc ?_ _ | refine blk_far ?_ NB165_179.out _)); exact BK165.out) hb); have n4_ := Aside0.mk (blk_below (g := gb172) (o := .cells #[.int .i64 t166, .int .i64 t167, .int .i64 t168, .int .i64 t169, .string t170] 25 (0, 0)) (by (with_reducible repeat (first | refine blk_drewN ?_ _ | refine blk_drew ?_ | refine blk_alloc ?_ _ | refine blk_far ?_ NB172_179.out _)); exact BK172.out) hb); have n5_ := Aside0.mk (blk_below (g := gb179) (o := .cells #[.int .i64 t173, .int .i64 t174, .int .i64 t175, .int .i64 t176, .string t177] 25 (0, 0)) (by (with_reducible repeat (first | refine blk_drewN ?_ _ | refine blk_drew ?_ | refine blk_alloc ?_ _)); refine blk_put (cs := #[.int .i64 t173, .int .i64 t174, .int .i64 t175, .int .i64 t176, .string (⟨#[]⟩ : ByteArray)]) ?_ 4 _ rfl; (with_reducible repeat (first | refine blk_drewN ?_ _ | refine blk_drew ?_ | refine blk_alloc ?_ _)); refine blk_put (cs := #[.int .i64 t173, .int .i64 t174, .int .i64 t175, .int .i64 0, .string (⟨#[]⟩ : ByteArray)]) ?_ 3 _ rfl; (with_reducible repeat (first | refine blk_drewN ?_ _ | refine blk_drew ?_ | refine blk_alloc ?_ _)); refine blk_put (cs := #[.int .i64 t173, .int .i64 t174, .int .i64 0, .int .i64 0, .string (⟨#[]⟩ : ByteArray)]) ?_ 2 _ rfl; (with_reducible repeat (first | refine blk_drewN ?_ _ | refine blk_drew ?_ | refine blk_alloc ?_ _)); refine blk_put (cs := #[.int .i64 t173, .int .i64 0, .int .i64 0, .int .i64 0, .string (⟨#[]⟩ : ByteArray)]) ?_ 1 _ rfl; (with_reducible repeat (first | refine blk_drewN ?_ _ | refine blk_drew ?_ | refine blk_alloc ?_ _)); refine blk_put (cs := #[.int .i64 0, .int .i64 0, .int .i64 0, .int .i64 0, .string (⟨#[]⟩ : ByteArray)]) ?_ 0 _ rfl; (with_reducible repeat (first | refine blk_drewN ?_ _ | refine blk_drew ?_ | refine blk_alloc ?_ _)); exact BK179.out) hb); have n6_ := Aside0.mk (below_step bw hb); clear BK144; clear BK151; clear BK158; clear BK165; clear BK172; clear BK179; clear HB; have BK144 := n0_; have BK151 := n1_; have BK158 := n2_; have BK165 := n3_; have BK172 := n4_; have BK179 := n5_; have HB := n6_; clear n0_ n1_ n2_ n3_ n4_ n5_ n6_; (try clear hb); (try clear hb2); (try clear hk); (try clear hi)) | (go_at_call 14; (with_reducible refine (acceptor_Right.calls 0 0 t181 _ A15.out).mono ?_); rintro e w54 ⟨rfl, hb⟩; have n0_ := Aside0.mk (nb BK144.out hb); have n1_ := Aside0.mk (nb BK151.out hb); have n2_ := Aside0.mk (nb BK158.out hb); have n3_ := Aside0.mk (nb BK165.out hb); have n4_ := Aside0.mk (nb BK172.out hb); have n5_ := Aside0.mk (nb BK179.out hb); have n6_ := Aside0.mk (below_step bw hb); clear BK144; clear BK151; clear BK158; clear BK165; clear BK172; clear BK179; clear HB; have BK144 := n0_; have BK151 := n1_; have BK158 := n2_; have BK165 := n3_; have BK172 := n4_; have BK179 := n5_; have HB := n6_; clear n0_ n1_ n2_ n3_ n4_ n5_ n6_; (try clear hb); (try clear hb2); (try clear hk); (try clear hi)))
         go_ret
         exact ⟨er, bw⟩
        ·replace c14 := Bool.eq_false_iff.mpr c14
         subst c14
         have H1 : (some false) = some r := by rw [if_neg (show ¬ (false = true) by decide)] at H; exact H
         clear H
         have H := H1
         clear H1
         exact absurd ((Option.some.inj H).trans hr_.out) (by decide)
       ·rw [if_neg c12] at H
        have c12b0 : (t173 == 3 && (t174 == 0)) = false := by simpa using c12
        (try (have c12b1 : decide (t173 = 3 && (t174 == 0)) = false := by simpa using c12))
        (try (have c12b2 : (t173 == 3 && (t174 == 0)) = false := by simpa using c12))
        (try (have c12b3 : ¬ (t173 = 3 && (t174 == 0)) := by simpa using c12))
        (try (have c12b4 : (!(t173 == 3) || (!(t174 == 0))) = true := by have e_ : (!(t173 == 3) || (!(t174 == 0))) = (!(t173 == 3 && (t174 == 0))) := (by simp only [Bool.not_or, Bool.not_and, Bool.not_not]); rw [e_]; first | (simp only [c12, Bool.not_true]; done) | (simp only [Bool.eq_false_iff.mpr c12, Bool.not_false]; done)))
        clear c12
        exact absurd ((Option.some.inj H).trans hr_.out) (by decide)
      ·rw [if_neg c11] at H
       have c11b0 : (t177.toList == ([121] : List UInt8)) = false := beq_eq_false_iff_ne.mpr c11
       have c11b1 : (t177.toList != ([121] : List UInt8)) = true := bne_iff_ne.mpr c11
       exact absurd ((Option.some.inj H).trans hr_.out) (by decide)
     ·replace c10 := Bool.eq_false_iff.mpr c10
      subst c10
      have H1 : (some false) = some r := by rw [if_neg (show ¬ (false = true) by decide)] at H; exact H
      clear H
      have H := H1
      clear H1
      exact absurd ((Option.some.inj H).trans hr_.out) (by decide)
   ·replace c8 := Bool.eq_false_iff.mpr c8
    subst c8
    have H1 : (some false) = some r := by rw [if_neg (show ¬ (false = true) by decide)] at H; exact H
    clear H
    have H := H1
    clear H1
    exact absurd ((Option.some.inj H).trans hr_.out) (by decide)
 ·replace c6 := Bool.eq_false_iff.mpr c6
  subst c6
  have H1 : (some false) = some r := by rw [if_neg (show ¬ (false = true) by decide)] at H; exact H
  clear H
  have H := H1
  clear H1
  exact absurd ((Option.some.inj H).trans hr_.out) (by decide)
theorem carillonlaw10_examples.g_true : carillonlaw10_examples.g = some true := by kernel_rfl
def carillonlaw10_examples.f : Option (Bool) := some true
theorem carillonlaw10_examples.calls (r : Bool) (w : World) (h : carillonlaw10_examples.f = some r) :
  Calls Tryd.prog 6 #[] w fun e w' => e = .returned (.bool r) ∧ Below w.heap.size w w' := by
 obtain rfl := Option.some.inj h
 exact carillonlaw10_examples.calls0 true w ⟨rfl⟩ carillonlaw10_examples.g_true

/-! ### codec_put: function 23 -/
def codec_put.l0 : Nat → List Int → Int → Int → Option (List Int)
 | 0, _, _, _ => none
 | k + 1, x0, x1, x7 => if x7 ≥ 0 then (if 0 ≤ x7 then (if x0.length < 140737488355328 then (codec_put.l0 k (x0 ++ [(shr .u64 x1 x7) % 256]) x1 (wrap64 (x7 - 8))) else (none)) else (none)) else (some x0)
def codec_put.f (k : Nat) (l0 : List Int) (a1 : Int) (a2 : Int) : Option (List Int) := codec_put.l0 k l0 a1 (wrap64 (8 * (wrap64 (a2 - 1))))
theorem codec_put.mono_l : ∀ k, (∀ y0 y1 y2, LeO (codec_put.l0 k y0 y1 y2) (codec_put.l0 (k + 1) y0 y1 y2))
 | 0 => fun _ _ _ r h => by simp [codec_put.l0] at h
 | k + 1 => by
  have ih0 := codec_put.mono_l k
  ·intro y0 y1 y2
   unfold codec_put.l0
   repeat' first
   | (with_reducible exact ih0 _ _ _)
   | (with_reducible exact LeO.refl _)
   | (with_reducible exact LeO.none _)
   | (with_reducible refine LeO.ite ?_ ?_)
   | (with_reducible refine LeO.bind ?_ (fun _ => ?_))
   | exact ih0 _ _ _
   | exact LeO.none _
   | refine LeO.ite ?_ ?_
   | refine LeO.bind ?_ (fun _ => ?_)
theorem codec_put.mono : ∀ a0 a1 a2 k, LeO (codec_put.f k a0 a1 a2) (codec_put.f (k + 1) a0 a1 a2) := by
 intro a0 a1 a2 k
 have ih0 := codec_put.mono_l k
 unfold codec_put.f
 repeat' first
   | (with_reducible exact ih0 _ _ _)
   | (with_reducible exact LeO.refl _)
   | (with_reducible exact LeO.none _)
   | (with_reducible refine LeO.ite ?_ ?_)
   | (with_reducible refine LeO.bind ?_ (fun _ => ?_))
   | exact ih0 _ _ _
   | exact LeO.none _
   | refine LeO.ite ?_ ?_
   | refine LeO.bind ?_ (fun _ => ?_)
set_option maxHeartbeats 8000000 in
set_option maxRecDepth 100000 in
theorem codec_put.calls (k : Nat) (P0_ : Nat → Prop) (u9000_ : Value) (l0 : List Int) (a1 : Int) (a2 : Int) (r : List Int) (w0 w : World) (hB : Below w0.heap.size w0 w) (ho0 : Kd.R (Kd.int .u8) 5 w w0.heap.size P0_ u9000_ l0) (h : codec_put.f k l0 a1 a2 = some r) :
  Calls Tryd.prog 23 #[u9000_, .int .u64 a1, .int .i64 a2] w fun e w' => ∃ v0_ : Value, e = .returned (v0_) ∧ Kd.R (Kd.int .u8) 5 w' w0.heap.size (fun k_ => (P0_ k_ ∨ w.heap.size ≤ k_)) v0_ r ∧ Below w0.heap.size w0 w' ∧ Kept w w' (fun k_ => P0_ k_) := by
 have HO0 := Aside0.mk (show Kd.R (Kd.int .u8) 5 w w0.heap.size (fun k_ => (P0_ k_ ∨ w.heap.size ≤ k_)) u9000_ l0 from Kd.R_mono ho0 (fun k_ hk => (.inl hk)))
 have HK := Aside0.mk (Kept.refl w (fun k_ => P0_ k_))
 have HW0 := Aside0.mk hB.size
 have HB := Aside0.mk hB
 clear hB
 have H : (codec_put.l0 k l0 a1 (wrap64 (8 * (wrap64 (a2 - 1))))) = some r := h
 clear h
 have H' := Aside0.mk H
 clear H
 go_enter Tryd.func23, Tryd.ntmps23
 go_wp2
 go_loopg [0, 7] k (fun kq v0 v7 w' => ∃ (x0_1 : List Int) (x7_1 : Int), v7 = .int .i64 x7_1 ∧ Aside0 (codec_put.l0 kq x0_1 a1 x7_1 = some r) ∧ Aside0 (kq ≤ k) ∧ Aside0 (Kd.R (Kd.int .u8) 5 w' w0.heap.size (fun k_ => (P0_ k_ ∨ w.heap.size ≤ k_)) v0 x0_1) ∧ Aside0 (Kept w w' (fun k_ => P0_ k_)) ∧ Aside0 (Below w0.heap.size w0 w'))
 case atStart => exact ⟨(l0), (wrap64 (8 * (wrap64 (a2 - 1)))), (by first | rfl | (simp; done) | (simp [*]; done)), H', ⟨Nat.le_refl _⟩, ⟨by (with_reducible repeat (first | apply Kd.R_alloc | apply Kd.R_drewN | apply Kd.R_drew)); exact HO0.out⟩, ⟨by repeat (first | (with_reducible first | exact HK.out | apply Kept.alloc | apply Kept.drewN | apply Kept.drew) | exact HK.out)⟩, ⟨bw⟩⟩
 case round =>
  clear H'
  try clear c2
  try clear p2
  obtain ⟨x0_1, x7_1, rfl, HA, HK1, HO_0, HK, HB⟩ := hrel
  cases gk with
  | zero => exact absurd HA.out (by simp [codec_put.l0])
  | succ k1 =>
   have H := HA.out
   clear HA
   simp only [codec_put.l0] at H
   by_cases c4 : x7_1 ≥ 0
   ·rw [if_pos c4] at H
    have c4b0 : decide (0 ≤ x7_1) = true := decide_eq_true c4
    clear c4
    by_cases c5 : 0 ≤ x7_1
    ·rw [if_pos c5] at H
     have c5b0 := eq_true c5
     have c5b1 : decide (0 ≤ x7_1) = true := decide_eq_true c5
     clear c5
     obtain ⟨ji6, hji6⟩ : ∃ j_ : Int, (shr .u64 a1 x7_1) = j_ := ⟨_, rfl⟩
     replace H : (if x0_1.length < 140737488355328 then (codec_put.l0 k1 (x0_1 ++ [(ji6) % 256]) a1 (wrap64 (x7_1 - 8))) else (none)) = some r := by first | (rw [hji6] at H; exact H) | (simp only [hji6] at H ⊢; exact H)
     have hji6_ : (a1 / 2 ^ min x7_1.toNat 64) = ji6 := hji6
     have hji6z : x7_1 ≤ 64 → (a1 / 2 ^ x7_1.toNat) = ji6 := shr_small hji6
     by_cases c7 : x0_1.length < 140737488355328
     ·rw [if_pos c7] at H
      have LMc7 := Aside0.mk c7
      clear c7
      obtain ⟨y182, hy182⟩ : ∃ y_ : List Int, y_ = (x0_1 ++ [(ji6) % 256]) := ⟨_, rfl⟩
      replace H : (codec_put.l0 k1 y182 a1 (wrap64 (x7_1 - 8))) = some r := by first | (rw [hy182]; with_reducible exact H) | (have H2_ := (Option.bind_some _ _).symm.trans H; rw [hy182]; with_reducible exact H2_) | (have H2_ := (Option.bind_some _ _).symm.trans H; with_reducible exact H2_) | with_reducible exact H | (rw [hy182]; exact H) | exact H
      have Ny182 := Aside0.mk hy182
      clear hy182
      have H' := Aside0.mk H
      clear H
      go_wp2_with (first | ((with_reducible refine gate_builtin (b := .append) (xs := #[.tmp 15, .tmp 20]) rfl ?_); at_builtin; refine Kd.R_append (Kd.int .u8) (w0 := w0) w0.heap.size rfl (.tmp 15) (.tmp 20) 61 5 (.int .u8 0) 1 rfl Tryd.underlying61 info5 rfl (by decide) (by omega) u0 x0_1 ((ji6) % 256) [.int .u8 ((ji6) % 256)] (fun k_ => (P0_ k_ ∨ w.heap.size ≤ k_)) (fun _ => False) rfl rfl ?aP (fun _ hk => hk.elim) ?aF ?aO ?aB ?aS ?aL ?_; (case aP => exact rfl); (case aB => exact bw); (case aF => exact (fun k_ hk => (.inr (Nat.le_trans (by first | exact HK.out.1 | exact (show Kept w _ (fun k_ => P0_ k_) from by repeat (first | (with_reducible first | exact HK.out | apply Kept.alloc | apply Kept.drewN | apply Kept.drew) | exact HK.out)).1) hk)))); (case aO => exact (by (with_reducible repeat (first | apply Kd.R_alloc | apply Kd.R_drewN | apply Kd.R_drew)); exact HO_0.out)); (case aS => exact (below_size bw)); (case aL => have := LMc7.out; omega); intro v183 w8 ho hb hg hat; rw [← Ny182.out] at ho; have n0_ := Aside0.mk (hb); have n1_ := Aside0.mk (Kept.of_grown (S := (fun k_ => P0_ k_)) hg (by repeat (first | (with_reducible first | exact HK.out | apply Kept.alloc | apply Kept.drewN | apply Kept.drew) | exact HK.out)) (fun k_ e_ => (HO_0.out.1 k_ e_))); have n2_ := Aside0.mk (ho); clear HB; clear HK; clear HO_0; have HB := n0_; have HK := n1_; have HO184 := n2_; clear n0_ n1_ n2_; clear ho hb hg hat))
      go_roundg k1
      case measure => have := HK1.out; omega
      case rel => (try rw [hji6]); exact ⟨(y182), (wrap64 (x7_1 - 8)), (by first | rfl | (simp; done) | (simp [*]; done)), H', ⟨by have := HK1.out; omega⟩, ⟨by (with_reducible repeat (first | apply Kd.R_alloc | apply Kd.R_drewN | apply Kd.R_drew)); exact HO184.out⟩, ⟨by repeat (first | (with_reducible first | exact HK.out | apply Kept.alloc | apply Kept.drewN | apply Kept.drew) | exact HK.out)⟩, ⟨bw⟩⟩
     ·rw [if_neg c7] at H
      exact absurd H (by simp)
    ·rw [if_neg c5] at H
     exact absurd H (by simp)
   ·rw [if_neg c4] at H
    have c4b0 : decide (0 ≤ x7_1) = false := decide_eq_false c4
    clear c4
    obtain rfl := Option.some.inj H
    go_wp2
    go_ret
    exact ⟨_, er, by (with_reducible repeat (first | apply Kd.R_alloc | apply Kd.R_drewN | apply Kd.R_drew)); exact HO_0.out, bw, by repeat (first | (with_reducible first | exact HK.out | apply Kept.alloc | apply Kept.drewN | apply Kept.drew) | exact HK.out)⟩

/-! ### codec_Encode: function 16 -/
def codec_Encode.l0 : Nat → List Int → List (S51) → Int → Int → Option (ByteArray × Int)
 | 0, _, _, _, _ => none
 | k + 1, x4, x11, x12, x13 => if x13 < x12 then (if 0 ≤ x13 then (if x13 < (x11.length : Int) then (if ((rd_T51 x11 x13).f0) < 1 then (some ((⟨#[]⟩ : ByteArray), 1)) else (if ((rd_T51 x11 x13).f0) > 4 then (some ((⟨#[]⟩ : ByteArray), 1)) else (if ((rd_T51 x11 x13).f0) = 4 then (if ((rd_T51 x11 x13).f1) = 0 then (if (((rd_T51 x11 x13).f2).size : Int) > 100000 then (some ((⟨#[]⟩ : ByteArray), 3)) else ((codec_put.f k x4 (IntKind.u64.wrap ((((rd_T51 x11 x13).f2).size : Int))) 4).bind fun t187 => (if t187.length + ((rd_T51 x11 x13).f2).size < 140737488355328 then (codec_Encode.l0 k (t187 ++ bytesOf ((rd_T51 x11 x13).f2)) x11 x12 (wrap64 (x13 + 1))) else (none)))) else (some ((⟨#[]⟩ : ByteArray), 1))) else (if 0 ≤ ((rd_T51 x11 x13).f0) then (if ((rd_T51 x11 x13).f0) < 5 then (if ((rd_T51 x11 x13).f2).toList = ([] : List UInt8) then (if (rd sizTabI ((rd_T51 x11 x13).f0)) < 8 then (if 0 ≤ (wrap64 (8 * (rd sizTabI ((rd_T51 x11 x13).f0)))) then (if (shr .u64 ((rd_T51 x11 x13).f1) (wrap64 (8 * (rd sizTabI ((rd_T51 x11 x13).f0))))) > 0 then (some ((⟨#[]⟩ : ByteArray), 1)) else ((codec_put.f k x4 ((rd_T51 x11 x13).f1) (rd sizTabI ((rd_T51 x11 x13).f0))).bind fun t194 => (codec_Encode.l0 k t194 x11 x12 (wrap64 (x13 + 1))))) else (none)) else ((codec_put.f k x4 ((rd_T51 x11 x13).f1) (rd sizTabI ((rd_T51 x11 x13).f0))).bind fun t197 => (codec_Encode.l0 k t197 x11 x12 (wrap64 (x13 + 1))))) else (some ((⟨#[]⟩ : ByteArray), 1))) else (none)) else (none))))) else (none)) else (none)) else (some (strOfNums x4, 0))
def codec_Encode.f (k : Nat) (l0 : List (S51)) : Option (ByteArray × Int) := if (l0.length : Int) > 1000 then (some ((⟨#[]⟩ : ByteArray), 3)) else (codec_Encode.l0 k ([] : List Int) l0 (l0.length : Int) 0)
theorem codec_Encode.mono_l : ∀ k, (∀ y0 y1 y2 y3, LeO (codec_Encode.l0 k y0 y1 y2 y3) (codec_Encode.l0 (k + 1) y0 y1 y2 y3))
 | 0 => fun _ _ _ _ r h => by simp [codec_Encode.l0] at h
 | k + 1 => by
  have ih0 := codec_Encode.mono_l k
  ·intro y0 y1 y2 y3
   unfold codec_Encode.l0
   repeat' first
   | (with_reducible exact ih0 _ _ _ _)
   | (with_reducible exact codec_put.mono _ _ _ _)
   | (with_reducible exact LeO.refl _)
   | (with_reducible exact LeO.none _)
   | (with_reducible refine LeO.ite ?_ ?_)
   | (with_reducible refine LeO.bind ?_ (fun _ => ?_))
   | exact ih0 _ _ _ _
   | exact codec_put.mono _ _ _ _
   | exact LeO.none _
   | refine LeO.ite ?_ ?_
   | refine LeO.bind ?_ (fun _ => ?_)
theorem codec_Encode.mono : ∀ a0 k, LeO (codec_Encode.f k a0) (codec_Encode.f (k + 1) a0) := by
 intro a0 k
 have ih0 := codec_Encode.mono_l k
 unfold codec_Encode.f
 repeat' first
   | (with_reducible exact ih0 _ _ _ _)
   | (with_reducible exact codec_put.mono _ _ _ _)
   | (with_reducible exact LeO.refl _)
   | (with_reducible exact LeO.none _)
   | (with_reducible refine LeO.ite ?_ ?_)
   | (with_reducible refine LeO.bind ?_ (fun _ => ?_))
   | exact ih0 _ _ _ _
   | exact codec_put.mono _ _ _ _
   | exact LeO.none _
   | refine LeO.ite ?_ ?_
   | refine LeO.bind ?_ (fun _ => ?_)
def codec_Encode.T14 : Bool × List (List Nat × List Nat) := (true, [([], []), ([], []), ([1], [1]), ([2], [2]), ([3], [3]), ([0, 4], [0, 4]), ([], []), ([6], [6]), ([5, 7, 5], [5, 7]), ([8, 8, 0, 1, 2, 3, 4, 5, 6, 7, 8], [0, 8])])
def codec_Encode.B14 : List Nat := [0, 0, 2, 6, 14, 31, 0, 64, 255, 511]
theorem codec_Encode.tab14 : rtab .any (opsOf Tryd.f16 14) = codec_Encode.T14 := by kernel_rfl
theorem codec_Encode.bits14 : waitsOk codec_Encode.T14.2 codec_Encode.B14 = true := by kernel_rfl
set_option maxHeartbeats 8000000 in
set_option maxRecDepth 100000 in
theorem codec_Encode.calls (k : Nat) (A0 : Option Addr) (c0 : Nat) (l0 : List (S51)) (r1 : ByteArray) (r2 : Int) (w : World) (hr0 : Kd.C k51 w A0 l0.length l0) (hc0 : l0.length ≤ c0) (HT_ : TabOk w) (h : codec_Encode.f k l0 = some (r1, r2)) :
  Calls Tryd.prog 16 #[.slice A0 l0.length c0] w fun e w' => e = .returned (.tuple #[.string r1, .int .i64 r2]) ∧ Below w.heap.size w w' := by
 have HT := Aside0.mk HT_
 have HRGsiz := Aside0.mk HT_.sizC
 clear HT_
 have hu51 := Tryd.underlying51
 have HR0 := Aside0.mk hr0
 have HC0 := Aside0.mk hc0
 clear hr0 hc0
 have HB := Aside0.mk (Below.refl w.heap.size w)
 have H : (if (l0.length : Int) > 1000 then (some ((⟨#[]⟩ : ByteArray), 3)) else (codec_Encode.l0 k ([] : List Int) l0 (l0.length : Int) 0)) = some (r1, r2) := h
 clear h
 by_cases c2 : (l0.length : Int) > 1000
 ·rw [if_pos c2] at H
  have c2b0 : decide (1000 < (l0.length : Int)) = true := decide_eq_true c2
  have c2b1 : decide (1000 < l0.length) = true := decide_eq_true (by omega)
  clear c2
  simp only [Option.some.injEq, Prod.mk.injEq] at H
  obtain ⟨rfl, rfl⟩ := H
  go_enter Tryd.func16, Tryd.ntmps16
  go_wp2
  go_ret2
  exact ⟨er, bw⟩
 ·rw [if_neg c2] at H
  have c2b0 : decide (1000 < (l0.length : Int)) = false := decide_eq_false c2
  have c2b1 : decide (1000 < l0.length) = false := decide_eq_false (by omega)
  clear c2
  have H' := Aside0.mk H
  clear H
  go_enter Tryd.func16, Tryd.ntmps16
  go_wp2
  go_loopg [4, 13] k (fun kq v4 v13 w' => ∃ (x4_1 : List Int) (x13_1 : Int), v13 = .int .i64 x13_1 ∧ Aside0 (codec_Encode.l0 kq x4_1 l0 (l0.length : Int) x13_1 = some (r1, r2)) ∧ Aside0 (kq ≤ k) ∧ Aside0 (Kd.R (Kd.int .u8) 5 w' w.heap.size (fun _ => True) v4 x4_1) ∧ Aside0 (Below w.heap.size w w'))
  case atStart => exact ⟨(([] : List Int)), (0), (by first | rfl | (simp; done) | (simp [*]; done)), H', ⟨Nat.le_refl _⟩, ⟨by first | exact Kd.R_nil _ _ _ _ _ | exact Kd.N_nil _ _ _ _ _ | exact Kd.V_nil _ _ _ _ _ | exact Kd.Q_nil _ _ _ _ _ | exact Kd.S_nil _ _ _ _ _⟩, ⟨bw⟩⟩
  case round =>
   clear H'
   try clear c1
   try clear c2
   try clear c2b0
   try clear c2b1
   try clear p2
   obtain ⟨x4_1, x13_1, rfl, HA, HK1, HO_4, HB⟩ := hrel
   cases gk with
   | zero => exact absurd HA.out (by simp [codec_Encode.l0])
   | succ k1 =>
    have H := HA.out
    clear HA
    simp only [codec_Encode.l0] at H
    by_cases c3 : x13_1 < (l0.length : Int)
    ·rw [if_pos c3] at H
     have c3b0 : decide (x13_1 < (l0.length : Int)) = true := decide_eq_true c3
     clear c3
     by_cases c4 : 0 ≤ x13_1
     ·rw [if_pos c4] at H
      have c4b0 : decide (0 ≤ x13_1) = true := decide_eq_true c4
      clear c4
      by_cases c5 : x13_1 < (l0.length : Int)
      ·rw [if_pos c5] at H
       have c5b0 : decide (x13_1 < (l0.length : Int)) = true := decide_eq_true c5
       clear c5
       by_cases c6 : ((rd_T51 l0 x13_1).f0) < 1
       ·rw [if_pos c6] at H
        have c6b0 : decide (((rd_T51 l0 x13_1).f0) < 1) = true := decide_eq_true c6
        clear c6
        simp only [Option.some.injEq, Prod.mk.injEq] at H
        obtain ⟨rfl, rfl⟩ := H
        have p185 : 0 ≤ (x13_1 : Int) := of_decide_eq_true (by first | (with_reducible assumption) | assumption)
        have q185 : x13_1 < (l0.length : Int) := of_decide_eq_true (by first | (with_reducible assumption) | assumption)
        obtain ⟨ad185, e185, hx185_0, hx185_1, hx185_2⟩ := at_T51 HR0.out x13_1 p185 q185
        cases e185
        replace hx185_0 := (HB.out.cell (World.block_lt_of_cell? w _ hx185_0)).trans hx185_0
        replace hx185_1 := (HB.out.cell (World.block_lt_of_cell? w _ hx185_1)).trans hx185_1
        replace hx185_2 := (HB.out.cell (World.block_lt_of_cell? w _ hx185_2)).trans hx185_2
        replace p185 := eq_true p185
        replace q185 := eq_true q185
        go_wp2_with (first | ((with_reducible refine gate_dst (N := 6) rfl ?_); refine box_event ?hg (N := 6) ?hd (cs := #[.int .i64 0, .int .u64 0, .string (⟨#[]⟩ : ByteArray)]) (t := 51) ?hr ?_; (case hd => rfl); (case hg => rfl); (case hr => first | (go_simp; done) | (go_simp; rfl)); intro gb186 hg w7 hbox hb; have n0_ := Aside0.mk (Kd.R_below (by (with_reducible repeat (first | apply Kd.R_alloc | apply Kd.R_drewN | apply Kd.R_drew)); exact HO_4.out) hb); have n1_ := Aside0.mk (below_step bw hb); have n2_ := Aside0.mk (hbox); have n3_ := Aside0.mk ((g1 hg bw : w.heap.size ≤ gb186)); have n4_ := Aside0.mk ((g1 hg bw : w.heap.size ≤ gb186)); clear HO_4; clear HB; have HO_4 := n0_; have HB := n1_; have BK186 := n2_; have GW186 := n3_; have GE186 := n4_; clear n0_ n1_ n2_ n3_ n4_; clear hb hbox hg; have hcz8_0 := bc3_0 BK186.out; have hcz8_1 := bc3_1 BK186.out; have hcz8_2 := bc3_2 BK186.out; have hfz8_0 := blk_frozen BK186.out 0; have hfz8_1 := blk_frozen BK186.out 1; have hfz8_2 := blk_frozen BK186.out 2))
        go_ret2
        exact ⟨er, bw⟩
       ·rw [if_neg c6] at H
        have c6b0 : decide (((rd_T51 l0 x13_1).f0) < 1) = false := decide_eq_false c6
        clear c6
        by_cases c9 : ((rd_T51 l0 x13_1).f0) > 4
        ·rw [if_pos c9] at H
         have c9b0 : decide (4 < ((rd_T51 l0 x13_1).f0)) = true := decide_eq_true c9
         clear c9
         simp only [Option.some.injEq, Prod.mk.injEq] at H
         obtain ⟨rfl, rfl⟩ := H
         have p185 : 0 ≤ (x13_1 : Int) := of_decide_eq_true (by first | (with_reducible assumption) | assumption)
         have q185 : x13_1 < (l0.length : Int) := of_decide_eq_true (by first | (with_reducible assumption) | assumption)
         obtain ⟨ad185, e185, hx185_0, hx185_1, hx185_2⟩ := at_T51 HR0.out x13_1 p185 q185
         cases e185
         replace hx185_0 := (HB.out.cell (World.block_lt_of_cell? w _ hx185_0)).trans hx185_0
         replace hx185_1 := (HB.out.cell (World.block_lt_of_cell? w _ hx185_1)).trans hx185_1
         replace hx185_2 := (HB.out.cell (World.block_lt_of_cell? w _ hx185_2)).trans hx185_2
         replace p185 := eq_true p185
         replace q185 := eq_true q185
         go_wp2_with (first | ((with_reducible refine gate_dst (N := 6) rfl ?_); refine box_event ?hg (N := 6) ?hd (cs := #[.int .i64 0, .int .u64 0, .string (⟨#[]⟩ : ByteArray)]) (t := 51) ?hr ?_; (case hd => rfl); (case hg => rfl); (case hr => first | (go_simp; done) | (go_simp; rfl)); intro gb186 hg w10 hbox hb; have n0_ := Aside0.mk (Kd.R_below (by (with_reducible repeat (first | apply Kd.R_alloc | apply Kd.R_drewN | apply Kd.R_drew)); exact HO_4.out) hb); have n1_ := Aside0.mk (below_step bw hb); have n2_ := Aside0.mk (hbox); have n3_ := Aside0.mk ((g1 hg bw : w.heap.size ≤ gb186)); have n4_ := Aside0.mk ((g1 hg bw : w.heap.size ≤ gb186)); clear HO_4; clear HB; have HO_4 := n0_; have HB := n1_; have BK186 := n2_; have GW186 := n3_; have GE186 := n4_; clear n0_ n1_ n2_ n3_ n4_; clear hb hbox hg; have hcz11_0 := bc3_0 BK186.out; have hcz11_1 := bc3_1 BK186.out; have hcz11_2 := bc3_2 BK186.out; have hfz11_0 := blk_frozen BK186.out 0; have hfz11_1 := blk_frozen BK186.out 1; have hfz11_2 := blk_frozen BK186.out 2))
         go_ret2
         exact ⟨er, bw⟩
        ·rw [if_neg c9] at H
         have c9b0 : decide (4 < ((rd_T51 l0 x13_1).f0)) = false := decide_eq_false c9
         clear c9
         by_cases c12 : ((rd_T51 l0 x13_1).f0) = 4
         ·rw [if_pos c12] at H
          have c12b0 : (((rd_T51 l0 x13_1).f0) == 4) = true := beq_iff_eq.mpr c12
          have c12b1 : (((rd_T51 l0 x13_1).f0) != 4) = false := bne_eq_false_iff_eq.mpr c12
          clear c12
          by_cases c13 : ((rd_T51 l0 x13_1).f1) = 0
          ·rw [if_pos c13] at H
           have c13b0 : (((rd_T51 l0 x13_1).f1) == 0) = true := beq_iff_eq.mpr c13
           have c13b1 : (((rd_T51 l0 x13_1).f1) != 0) = false := bne_eq_false_iff_eq.mpr c13
           clear c13
           by_cases c14 : (((rd_T51 l0 x13_1).f2).size : Int) > 100000
           ·rw [if_pos c14] at H
            have c14b0 : decide (100000 < (((rd_T51 l0 x13_1).f2).size : Int)) = true := decide_eq_true c14
            have c14b1 : decide (100000 < ((rd_T51 l0 x13_1).f2).size) = true := decide_eq_true (by omega)
            clear c14
            simp only [Option.some.injEq, Prod.mk.injEq] at H
            obtain ⟨rfl, rfl⟩ := H
            have p185 : 0 ≤ (x13_1 : Int) := of_decide_eq_true (by first | (with_reducible assumption) | assumption)
            have q185 : x13_1 < (l0.length : Int) := of_decide_eq_true (by first | (with_reducible assumption) | assumption)
            obtain ⟨ad185, e185, hx185_0, hx185_1, hx185_2⟩ := at_T51 HR0.out x13_1 p185 q185
            cases e185
            replace hx185_0 := (HB.out.cell (World.block_lt_of_cell? w _ hx185_0)).trans hx185_0
            replace hx185_1 := (HB.out.cell (World.block_lt_of_cell? w _ hx185_1)).trans hx185_1
            replace hx185_2 := (HB.out.cell (World.block_lt_of_cell? w _ hx185_2)).trans hx185_2
            replace p185 := eq_true p185
            replace q185 := eq_true q185
            go_wp2_with (first | ((with_reducible refine gate_dst (N := 6) rfl ?_); refine box_event ?hg (N := 6) ?hd (cs := #[.int .i64 0, .int .u64 0, .string (⟨#[]⟩ : ByteArray)]) (t := 51) ?hr ?_; (case hd => rfl); (case hg => rfl); (case hr => first | (go_simp; done) | (go_simp; rfl)); intro gb186 hg w15 hbox hb; have n0_ := Aside0.mk (Kd.R_below (by (with_reducible repeat (first | apply Kd.R_alloc | apply Kd.R_drewN | apply Kd.R_drew)); exact HO_4.out) hb); have n1_ := Aside0.mk (below_step bw hb); have n2_ := Aside0.mk (hbox); have n3_ := Aside0.mk ((g1 hg bw : w.heap.size ≤ gb186)); have n4_ := Aside0.mk ((g1 hg bw : w.heap.size ≤ gb186)); clear HO_4; clear HB; have HO_4 := n0_; have HB := n1_; have BK186 := n2_; have GW186 := n3_; have GE186 := n4_; clear n0_ n1_ n2_ n3_ n4_; clear hb hbox hg; have hcz16_0 := bc3_0 BK186.out; have hcz16_1 := bc3_1 BK186.out; have hcz16_2 := bc3_2 BK186.out; have hfz16_0 := blk_frozen BK186.out 0; have hfz16_1 := blk_frozen BK186.out 1; have hfz16_2 := blk_frozen BK186.out 2))
            go_ret2
            exact ⟨er, bw⟩
           ·rw [if_neg c14] at H
            have c14b0 : decide (100000 < (((rd_T51 l0 x13_1).f2).size : Int)) = false := decide_eq_false c14
            have c14b1 : decide (100000 < ((rd_T51 l0 x13_1).f2).size) = false := decide_eq_false (by omega)
            clear c14
            replace H := Option.bind_eq_some_iff.mp H
            obtain ⟨t187, A170, H⟩ := H
            replace H : (if t187.length + ((rd_T51 l0 x13_1).f2).size < 140737488355328 then (codec_Encode.l0 k1 (t187 ++ bytesOf ((rd_T51 l0 x13_1).f2)) l0 (l0.length : Int) (wrap64 (x13_1 + 1))) else (none)) = some (r1, r2) := H
            have A17 := Aside0.mk A170
            clear A170
            by_cases c18 : t187.length + ((rd_T51 l0 x13_1).f2).size < 140737488355328
            ·rw [if_pos c18] at H
             have LMc18 := Aside0.mk c18
             clear c18
             obtain ⟨y190, hy190⟩ : ∃ y_ : List Int, y_ = (t187 ++ bytesOf ((rd_T51 l0 x13_1).f2)) := ⟨_, rfl⟩
             replace H : (codec_Encode.l0 k1 y190 l0 (l0.length : Int) (wrap64 (x13_1 + 1))) = some (r1, r2) := by first | (rw [hy190]; with_reducible exact H) | (have H2_ := (Option.bind_some _ _).symm.trans H; rw [hy190]; with_reducible exact H2_) | (have H2_ := (Option.bind_some _ _).symm.trans H; with_reducible exact H2_) | with_reducible exact H | (rw [hy190]; exact H) | exact H
             have Ny190 := Aside0.mk hy190
             clear hy190
             have H' := Aside0.mk H
             clear H
             have p185 : 0 ≤ (x13_1 : Int) := of_decide_eq_true (by first | (with_reducible assumption) | assumption)
             have q185 : x13_1 < (l0.length : Int) := of_decide_eq_true (by first | (with_reducible assumption) | assumption)
             obtain ⟨ad185, e185, hx185_0, hx185_1, hx185_2⟩ := at_T51 HR0.out x13_1 p185 q185
             cases e185
             replace hx185_0 := (HB.out.cell (World.block_lt_of_cell? w _ hx185_0)).trans hx185_0
             replace hx185_1 := (HB.out.cell (World.block_lt_of_cell? w _ hx185_1)).trans hx185_1
             replace hx185_2 := (HB.out.cell (World.block_lt_of_cell? w _ hx185_2)).trans hx185_2
             replace p185 := eq_true p185
             replace q185 := eq_true q185
             try go_wp2_with (first | ((with_reducible refine gate_dst (N := 6) rfl ?_); refine box_event ?hg (N := 6) ?hd (cs := #[.int .i64 0, .int .u64 0, .string (⟨#[]⟩ : ByteArray)]) (t := 51) ?hr ?_; (case hd => rfl); (case hg => rfl); (case hr => first | (go_simp; done) | (go_simp; rfl)); intro gb186 hg w19 hbox hb; have n0_ := Aside0.mk (Kd.R_below (by (with_reducible repeat (first | apply Kd.R_alloc | apply Kd.R_drewN | apply Kd.R_drew)); exact HO_4.out) hb); have n1_ := Aside0.mk (below_step bw hb); have n2_ := Aside0.mk (hbox); have n3_ := Aside0.mk ((g1 hg bw : w.heap.size ≤ gb186)); have n4_ := Aside0.mk ((g1 hg bw : w.heap.size ≤ gb186)); clear HO_4; clear HB; have HO_4 := n0_; have HB := n1_; have BK186 := n2_; have GW186 := n3_; have GE186 := n4_; clear n0_ n1_ n2_ n3_ n4_; clear hb hbox hg; have hcz20_0 := bc3_0 BK186.out; have hcz20_1 := bc3_1 BK186.out; have hcz20_2 := bc3_2 BK186.out; have hfz20_0 := blk_frozen BK186.out 0; have hfz20_1 := blk_frozen BK186.out 1; have hfz20_2 := blk_frozen BK186.out 2))
             have n0_ : Aside0 (Kd.R (Kd.int .u8) 5 (((w19.setCell ⟨gb186, 0, none⟩ (.int .i64 ((rd_T51 l0 x13_1).f0))).setCell ⟨gb186, 1, none⟩ (.int .u64 ((rd_T51 l0 x13_1).f1))).setCell ⟨gb186, 2, none⟩ (.string ((rd_T51 l0 x13_1).f2))) w.heap.size (fun _ => True) u4 x4_1) := ⟨by (with_reducible repeat (first | apply Kd.R_alloc | apply Kd.R_drewN | apply Kd.R_drew)); exact Kd.R_mono (Kd.R_far (p := ⟨gb186, 2, none⟩) (Kd.R_far (p := ⟨gb186, 1, none⟩) (Kd.R_far (p := ⟨gb186, 0, none⟩) (Kd.R_types HO_4.out BK186.out (by decide)) (fun _ hk => hk.2) (.int .i64 ((rd_T51 l0 x13_1).f0))) (fun _ hk => hk.2) (.int .u64 ((rd_T51 l0 x13_1).f1))) (fun _ hk => hk.2) (.string ((rd_T51 l0 x13_1).f2))) (fun _ hk => trivial)⟩
             have n1_ : Aside0 ((((w19.setCell ⟨gb186, 0, none⟩ (.int .i64 ((rd_T51 l0 x13_1).f0))).setCell ⟨gb186, 1, none⟩ (.int .u64 ((rd_T51 l0 x13_1).f1))).setCell ⟨gb186, 2, none⟩ (.string ((rd_T51 l0 x13_1).f2))).heap[gb186]? = some (.cells #[.int .i64 ((rd_T51 l0 x13_1).f0), .int .u64 ((rd_T51 l0 x13_1).f1), .string ((rd_T51 l0 x13_1).f2)] 51 (0, 0))) := ⟨by (with_reducible repeat (first | refine blk_drewN ?_ _ | refine blk_drew ?_ | refine blk_alloc ?_ _)); refine blk_put (cs := #[.int .i64 ((rd_T51 l0 x13_1).f0), .int .u64 ((rd_T51 l0 x13_1).f1), .string (⟨#[]⟩ : ByteArray)]) ?_ 2 _ rfl; (with_reducible repeat (first | refine blk_drewN ?_ _ | refine blk_drew ?_ | refine blk_alloc ?_ _)); refine blk_put (cs := #[.int .i64 ((rd_T51 l0 x13_1).f0), .int .u64 0, .string (⟨#[]⟩ : ByteArray)]) ?_ 1 _ rfl; (with_reducible repeat (first | refine blk_drewN ?_ _ | refine blk_drew ?_ | refine blk_alloc ?_ _)); refine blk_put (cs := #[.int .i64 0, .int .u64 0, .string (⟨#[]⟩ : ByteArray)]) ?_ 0 _ rfl; (with_reducible repeat (first | refine blk_drewN ?_ _ | refine blk_drew ?_ | refine blk_alloc ?_ _)); exact BK186.out⟩
             have n2_ : Aside0 (Below w.heap.size w (((w19.setCell ⟨gb186, 0, none⟩ (.int .i64 ((rd_T51 l0 x13_1).f0))).setCell ⟨gb186, 1, none⟩ (.int .u64 ((rd_T51 l0 x13_1).f1))).setCell ⟨gb186, 2, none⟩ (.string ((rd_T51 l0 x13_1).f2)))) := ⟨bw⟩
             (try clear HO_4)
             (try clear BK186)
             (try clear HB)
             generalize (((w19.setCell ⟨gb186, 0, none⟩ (.int .i64 ((rd_T51 l0 x13_1).f0))).setCell ⟨gb186, 1, none⟩ (.int .u64 ((rd_T51 l0 x13_1).f1))).setCell ⟨gb186, 2, none⟩ (.string ((rd_T51 l0 x13_1).f2))) = w21 at n0_ n1_ n2_ ⊢
             have HO_4 := n0_
             have BK186 := n1_
             have HB := n2_
             clear n0_ n1_ n2_
             have n0_ := Aside0.mk (Kd.R_drew HO_4.out)
             have n1_ := Aside0.mk (blk_drew BK186.out)
             have n2_ := Aside0.mk (below_drew1 HB.out)
             clear HO_4
             clear BK186
             clear HB
             have HO_4 := n0_
             have BK186 := n1_
             have HB := n2_
             clear n0_ n1_ n2_
             obtain ⟨Ao23, co23, eo23⟩ := Kd.R_slice HO_4.out
             (first | subst eo23 | (injection eo23 with f1_ f2_ f3_; have f4_ := f1_.symm; have f5_ := f3_.symm; clear f1_ f2_ f3_; subst f4_; subst f5_))
             refine start_ (n := 10) (S := fun w' => w'.cell? ⟨gb186, 0, none⟩ = some (.int .i64 ((rd_T51 l0 x13_1).f0)) ∧ w'.cell? ⟨gb186, 1, none⟩ = some (.int .u64 ((rd_T51 l0 x13_1).f1)) ∧ w'.cell? ⟨gb186, 2, none⟩ = some (.string ((rd_T51 l0 x13_1).f2))) (ds := []) #[false, false, false, false, false, false, false, false, false, false] (by kernel_rfl) rfl rfl ⟨(blk_cell BK186.out 0).trans rfl, (blk_cell BK186.out 1).trans rfl, (blk_cell BK186.out 2).trans rfl⟩ (fun hHeld => ?_); refine with_tabW codec_Encode.tab14 codec_Encode.bits14 (fun HT_ HW_ => ?_)
             generalize w21.drew = w22 at HO_4 BK186 HB hHeld ⊢
             refine pure_ (i := 0) (N := some 35) (v := ?_) (a' := ?_) #[true, false, false, false, false, false, false, false, false, false] rfl rfl (any_of HT_.out (by kernel_rfl)) (fun _ _ _ h => h) (Or.inl ⟨by rfl, ?_⟩) ?_ ?_
             rotate_left
             ·intro w'
              go_simp
              with_reducible rfl
             rotate_left
             ·simp only [Act.put, sl1, sl2, sl3, i64_w, i32_w]
              rfl
             refine pure_ (i := 1) (N := some 36) (v := ?_) (a' := ?_) #[true, true, false, false, false, false, false, false, false, false] rfl rfl (any_of HT_.out (by kernel_rfl)) (fun _ _ _ h => h) (Or.inl ⟨by rfl, ?_⟩) ?_ ?_
             rotate_left
             ·intro w'
              go_simp
              with_reducible rfl
             rotate_left
             ·simp only [Act.put, sl1, sl2, sl3, i64_w, i32_w]
              rfl
             refine pure_ (i := 6) (N := some 41) (v := ?_) (a' := ?_) #[true, true, false, false, false, false, true, false, false, false] rfl rfl (any_of HT_.out (by kernel_rfl)) (fun _ _ _ h => h) (Or.inl ⟨by rfl, ?_⟩) ?_ ?_
             rotate_left
             ·intro w'
              go_simp
              with_reducible rfl
             rotate_left
             ·simp only [Act.put, sl1, sl2, sl3, i64_w, i32_w]
              rfl
             refine take_ (i := 2) (N := some 37) (v := ?_) (a' := ?_) #[true, true, true, false, false, false, true, false, false, false] rfl rfl (take_ofW HT_.out HW_.out (by kernel_rfl)) (fun _ _ _ h => h) (Or.inl ⟨by rfl, ?_⟩) hHeld ?_ ?_
             rotate_left
             ·rintro w' ⟨s0, s1, s2⟩
              go_simp
              with_reducible rfl
             rotate_left
             ·simp only [Act.put, sl1, sl2, sl3, i64_w, i32_w]
              rfl
             refine pure_ (i := 3) (N := some 38) (v := ?_) (a' := ?_) #[true, true, true, true, false, false, true, false, false, false] rfl rfl (any_of HT_.out (by kernel_rfl)) (fun _ _ _ h => h) (Or.inl ⟨by rfl, ?_⟩) ?_ ?_
             rotate_left
             ·intro w'
              go_simp
              with_reducible rfl
             rotate_left
             ·simp only [Act.put, sl1, sl2, sl3, i64_w, i32_w]
              rfl
             refine pure_ (i := 4) (N := some 39) (v := ?_) (a' := ?_) #[true, true, true, true, true, false, true, false, false, false] rfl rfl (any_of HT_.out (by kernel_rfl)) (fun _ _ _ h => h) (Or.inl ⟨by rfl, ?_⟩) ?_ ?_
             rotate_left
             ·intro w'
              go_simp
              with_reducible rfl
             rotate_left
             ·simp only [Act.put, sl1, sl2, sl3, i64_w, i32_w]
              rfl
             refine take_ (i := 7) (N := some 42) (v := ?_) (a' := ?_) #[true, true, true, true, true, false, true, true, false, false] rfl rfl (take_ofW HT_.out HW_.out (by kernel_rfl)) (fun _ _ _ h => h) (Or.inl ⟨by rfl, ?_⟩) hHeld ?_ ?_
             rotate_left
             ·rintro w' ⟨s0, s1, s2⟩
              go_simp
              with_reducible rfl
             rotate_left
             ·simp only [Act.put, sl1, sl2, sl3, i64_w, i32_w]
              rfl
             refine one_ (i := 5) (N := some 40) #[true, true, true, true, true, true, true, true, false, false] rfl rfl (one_of HT_.out (by kernel_rfl)) (by decide) (fun K hK => ?_)
             refine goes_ Tryd.func23 (by kernel_rfl) rfl #[.slice Ao23 x4_1.length co23, .int .u64 (IntKind.u64.wrap ((((rd_T51 l0 x13_1).f2).size : Int))), .int .i64 4] (by rfl) rfl rfl am ?_
             with_reducible refine (codec_put.calls k1 (fun k_ => some k_ = (.slice Ao23 x4_1.length co23 : Value).ownBlock) (.slice Ao23 x4_1.length co23) x4_1 (IntKind.u64.wrap ((((rd_T51 l0 x13_1).f2).size : Int))) 4 t187 w _ ?side1 ?side2 A17.out).mono ?_
             (case side1 => repeat (first | (with_reducible first | exact HB.out | apply below_alloc | apply pw_below_drewN | apply below_drew1 | refine below_set ?_ GE186.out) | exact HB.out))
             (case side2 => exact Kd.R_tight rfl HO_4.out)
             rintro e w24 ⟨v188, rfl, ho0, hb, hkp⟩
             refine ⟨_, rfl, ?_⟩
             have n0_ := Aside0.mk (blk_kept (bk BK186.out) hkp (fun hs_ => (fun e_ => (Kd.R_ne HO_4.out BK186.out (by decide)) e_) hs_))
             have n1_ := Aside0.mk (Kd.R_mono (ok' := fun k_ => True) ho0 (fun k_ hk_ => trivial))
             have n2_ := Aside0.mk (hb)
             clear BK186
             clear HB
             clear HO_4
             have BK186 := n0_
             have HO189 := n1_
             have HB := n2_
             clear n0_ n1_ n2_
             (try clear hb)
             (try clear hkp)
             (try clear ho0)
             refine hK.out _ _ ⟨(blk_cell BK186.out 0).trans rfl, (blk_cell BK186.out 1).trans rfl, (blk_cell BK186.out 2).trans rfl⟩ (fun hHeld => ?_)
             clear hK K
             refine norm_ (a' := ?_) ?_ ?_
             rotate_left
             ·show Act.put _ (some 40) _ = _
              simp only [Act.put, sl1, sl2, sl3, i64_w, i32_w]
              rfl
             refine one_ (i := 8) (N := some 43) #[true, true, true, true, true, true, true, true, true, false] rfl rfl (one_of HT_.out (by kernel_rfl)) (by decide) (fun K hK => ?_)
             refine step_append_str (w0 := w) w.heap.size (by rfl) (.tmp 40) _ 61 9 5 rfl Tryd.underlying61 Tryd.underlying9 info5 v188 t187 ((rd_T51 l0 x13_1).f2) rfl rfl ?aO ?aB ?aS ?aL ?_
             (case aB => exact bw)
             (case aO => exact (Kd.own_of_R (by (with_reducible repeat (first | apply Kd.R_alloc | apply Kd.R_drewN | apply Kd.R_drew)); exact HO189.out)))
             (case aS => exact (below_size bw))
             (case aL => have := LMc18.out; omega)
             intro v191 w25 ho0 hb hg
             have ho := Kd.R_of_own (h1 := fun _ => rfl) (ok := fun _ => True) ho0 (fun _ _ => trivial)
             clear ho0
             have hat := True.intro
             rw [← Ny190.out] at ho
             change Kd.R (Kd.int .u8) 5 w25 w.heap.size (fun _ => True) v191 y190 at ho
             have n0_ := Aside0.mk (blk_grown (g := gb186) (o := .cells #[.int .i64 ((rd_T51 l0 x13_1).f0), .int .u64 ((rd_T51 l0 x13_1).f1), .string ((rd_T51 l0 x13_1).f2)] 51 (0, 0)) (bk BK186.out) hg (Kd.R_ne HO189.out BK186.out (by decide)))
             have n1_ := Aside0.mk (hb)
             have n2_ := Aside0.mk (ho)
             clear BK186
             clear HB
             clear HO189
             have BK186 := n0_
             have HB := n1_
             have HO192 := n2_
             clear n0_ n1_ n2_
             clear ho hb hg hat
             refine hK.out _ _ ⟨(blk_cell BK186.out 0).trans rfl, (blk_cell BK186.out 1).trans rfl, (blk_cell BK186.out 2).trans rfl⟩ (fun hHeld => ?_)
             clear hK K
             refine norm_ (a' := ?_) ?_ ?_
             rotate_left
             ·show Act.put _ (some 43) _ = _
              simp only [Act.put, sl1, sl2, sl3, i64_w, i32_w]
              rfl
             refine pure_ (i := 9) (N := some 4) (v := ?_) (a' := ?_) #[true, true, true, true, true, true, true, true, true, true] rfl rfl (any_of HT_.out (by kernel_rfl)) (fun _ _ _ h => h) (Or.inl ⟨by rfl, ?_⟩) ?_ ?_
             rotate_left
             ·intro w'
              go_simp
              with_reducible rfl
             rotate_left
             ·simp only [Act.put, sl1, sl2, sl3, i64_w, i32_w]
              rfl
             refine done_ (done_of HT_.out (by kernel_rfl)) ?_
             try go_wp2
             go_roundg k1
             case measure => have := HK1.out; omega
             case rel => exact ⟨(y190), (wrap64 (x13_1 + 1)), (by first | rfl | (simp; done) | (simp [*]; done)), H', ⟨by have := HK1.out; omega⟩, ⟨by (with_reducible repeat (first | apply Kd.R_alloc | apply Kd.R_drewN | apply Kd.R_drew)); exact HO192.out⟩, ⟨bw⟩⟩
            ·rw [if_neg c18] at H
             exact absurd H (by simp)
          ·rw [if_neg c13] at H
           have c13b0 : (((rd_T51 l0 x13_1).f1) == 0) = false := beq_eq_false_iff_ne.mpr c13
           have c13b1 : (((rd_T51 l0 x13_1).f1) != 0) = true := bne_iff_ne.mpr c13
           simp only [Option.some.injEq, Prod.mk.injEq] at H
           obtain ⟨rfl, rfl⟩ := H
           have p185 : 0 ≤ (x13_1 : Int) := of_decide_eq_true (by first | (with_reducible assumption) | assumption)
           have q185 : x13_1 < (l0.length : Int) := of_decide_eq_true (by first | (with_reducible assumption) | assumption)
           obtain ⟨ad185, e185, hx185_0, hx185_1, hx185_2⟩ := at_T51 HR0.out x13_1 p185 q185
           cases e185
           replace hx185_0 := (HB.out.cell (World.block_lt_of_cell? w _ hx185_0)).trans hx185_0
           replace hx185_1 := (HB.out.cell (World.block_lt_of_cell? w _ hx185_1)).trans hx185_1
           replace hx185_2 := (HB.out.cell (World.block_lt_of_cell? w _ hx185_2)).trans hx185_2
           replace p185 := eq_true p185
           replace q185 := eq_true q185
           go_wp2_with (first | ((with_reducible refine gate_dst (N := 6) rfl ?_); refine box_event ?hg (N := 6) ?hd (cs := #[.int .i64 0, .int .u64 0, .string (⟨#[]⟩ : ByteArray)]) (t := 51) ?hr ?_; (case hd => rfl); (case hg => rfl); (case hr => first | (go_simp; done) | (go_simp; rfl)); intro gb186 hg w26 hbox hb; have n0_ := Aside0.mk (Kd.R_below (by (with_reducible repeat (first | apply Kd.R_alloc | apply Kd.R_drewN | apply Kd.R_drew)); exact HO_4.out) hb); have n1_ := Aside0.mk (below_step bw hb); have n2_ := Aside0.mk (hbox); have n3_ := Aside0.mk ((g1 hg bw : w.heap.size ≤ gb186)); have n4_ := Aside0.mk ((g1 hg bw : w.heap.size ≤ gb186)); clear HO_4; clear HB; have HO_4 := n0_; have HB := n1_; have BK186 := n2_; have GW186 := n3_; have GE186 := n4_; clear n0_ n1_ n2_ n3_ n4_; clear hb hbox hg; have hcz27_0 := bc3_0 BK186.out; have hcz27_1 := bc3_1 BK186.out; have hcz27_2 := bc3_2 BK186.out; have hfz27_0 := blk_frozen BK186.out 0; have hfz27_1 := blk_frozen BK186.out 1; have hfz27_2 := blk_frozen BK186.out 2))
           go_ret2
           exact ⟨er, bw⟩
         ·rw [if_neg c12] at H
          have c12b0 : (((rd_T51 l0 x13_1).f0) == 4) = false := beq_eq_false_iff_ne.mpr c12
          have c12b1 : (((rd_T51 l0 x13_1).f0) != 4) = true := bne_iff_ne.mpr c12
          by_cases c28 : 0 ≤ ((rd_T51 l0 x13_1).f0)
          ·rw [if_pos c28] at H
           have c28b0 : decide (0 ≤ ((rd_T51 l0 x13_1).f0)) = true := decide_eq_true c28
           clear c28
           by_cases c29 : ((rd_T51 l0 x13_1).f0) < 5
           ·rw [if_pos c29] at H
            have c29b0 : decide (((rd_T51 l0 x13_1).f0) < 5) = true := decide_eq_true c29
            clear c29
            by_cases c30 : ((rd_T51 l0 x13_1).f2).toList = ([] : List UInt8)
            ·rw [if_pos c30] at H
             have c30b0 : (((rd_T51 l0 x13_1).f2).toList == ([] : List UInt8)) = true := beq_iff_eq.mpr c30
             have c30b1 : (((rd_T51 l0 x13_1).f2).toList != ([] : List UInt8)) = false := bne_eq_false_iff_eq.mpr c30
             clear c30
             by_cases c31 : (rd sizTabI ((rd_T51 l0 x13_1).f0)) < 8
             ·rw [if_pos c31] at H
              have c31b0 : decide ((rd sizTabI ((rd_T51 l0 x13_1).f0)) < 8) = true := decide_eq_true c31
              clear c31
              obtain ⟨ji32, hji32⟩ : ∃ j_ : Int, (wrap64 (8 * (rd sizTabI ((rd_T51 l0 x13_1).f0)))) = j_ := ⟨_, rfl⟩
              replace H : (if 0 ≤ (ji32) then (if (shr .u64 ((rd_T51 l0 x13_1).f1) (ji32)) > 0 then (some ((⟨#[]⟩ : ByteArray), 1)) else ((codec_put.f k1 x4_1 ((rd_T51 l0 x13_1).f1) (rd sizTabI ((rd_T51 l0 x13_1).f0))).bind fun t194 => (codec_Encode.l0 k1 t194 l0 (l0.length : Int) (wrap64 (x13_1 + 1))))) else (none)) = some (r1, r2) := by first | (rw [hji32] at H; exact H) | (simp only [hji32] at H ⊢; exact H)
              have hji32w : (IntKind.i64.wrap (8 * (rd sizTabI ((rd_T51 l0 x13_1).f0)))) = ji32 := (i64_w _).trans hji32
              by_cases c33 : 0 ≤ (ji32)
              ·rw [if_pos c33] at H
               have c33b0 := eq_true c33
               have c33b1 : decide (0 ≤ (ji32)) = true := decide_eq_true c33
               clear c33
               obtain ⟨ji34, hji34⟩ : ∃ j_ : Int, (shr .u64 ((rd_T51 l0 x13_1).f1) (ji32)) = j_ := ⟨_, rfl⟩
               replace H : (if (ji34) > 0 then (some ((⟨#[]⟩ : ByteArray), 1)) else ((codec_put.f k1 x4_1 ((rd_T51 l0 x13_1).f1) (rd sizTabI ((rd_T51 l0 x13_1).f0))).bind fun t194 => (codec_Encode.l0 k1 t194 l0 (l0.length : Int) (wrap64 (x13_1 + 1))))) = some (r1, r2) := by first | (rw [hji34] at H; exact H) | (simp only [hji34] at H ⊢; exact H)
               have hji34_ : (((rd_T51 l0 x13_1).f1) / 2 ^ min (ji32).toNat 64) = ji34 := hji34
               have hji34z : (ji32) ≤ 64 → (((rd_T51 l0 x13_1).f1) / 2 ^ (ji32).toNat) = ji34 := shr_small hji34
               by_cases c35 : (ji34) > 0
               ·rw [if_pos c35] at H
                have c35b0 : decide (0 < (ji34)) = true := decide_eq_true c35
                clear c35
                simp only [Option.some.injEq, Prod.mk.injEq] at H
                obtain ⟨rfl, rfl⟩ := H
                have p185 : 0 ≤ (x13_1 : Int) := of_decide_eq_true (by first | (with_reducible assumption) | assumption)
                have q185 : x13_1 < (l0.length : Int) := of_decide_eq_true (by first | (with_reducible assumption) | assumption)
                obtain ⟨ad185, e185, hx185_0, hx185_1, hx185_2⟩ := at_T51 HR0.out x13_1 p185 q185
                cases e185
                replace hx185_0 := (HB.out.cell (World.block_lt_of_cell? w _ hx185_0)).trans hx185_0
                replace hx185_1 := (HB.out.cell (World.block_lt_of_cell? w _ hx185_1)).trans hx185_1
                replace hx185_2 := (HB.out.cell (World.block_lt_of_cell? w _ hx185_2)).trans hx185_2
                replace p185 := eq_true p185
                replace q185 := eq_true q185
                go_wp2_with (first | ((with_reducible refine gate_dst (N := 6) rfl ?_); refine box_event ?hg (N := 6) ?hd (cs := #[.int .i64 0, .int .u64 0, .string (⟨#[]⟩ : ByteArray)]) (t := 51) ?hr ?_; (case hd => rfl); (case hg => rfl); (case hr => first | (go_simp; done) | (go_simp; rfl)); intro gb186 hg w36 hbox hb; have n0_ := Aside0.mk (Kd.R_below (by (with_reducible repeat (first | apply Kd.R_alloc | apply Kd.R_drewN | apply Kd.R_drew)); exact HO_4.out) hb); have n1_ := Aside0.mk (below_step bw hb); have n2_ := Aside0.mk (hbox); have n3_ := Aside0.mk ((g1 hg bw : w.heap.size ≤ gb186)); have n4_ := Aside0.mk ((g1 hg bw : w.heap.size ≤ gb186)); clear HO_4; clear HB; have HO_4 := n0_; have HB := n1_; have BK186 := n2_; have GW186 := n3_; have GE186 := n4_; clear n0_ n1_ n2_ n3_ n4_; clear hb hbox hg; have hcz37_0 := bc3_0 BK186.out; have hcz37_1 := bc3_1 BK186.out; have hcz37_2 := bc3_2 BK186.out; have hfz37_0 := blk_frozen BK186.out 0; have hfz37_1 := blk_frozen BK186.out 1; have hfz37_2 := blk_frozen BK186.out 2; have p193 : 0 ≤ (((rd_T51 l0 x13_1).f0) : Int) := of_decide_eq_true (by first | (with_reducible assumption) | assumption); have q193 : ((rd_T51 l0 x13_1).f0) < (sizTabI.length : Int) := of_decide_eq_true (by first | (with_reducible assumption) | assumption); have ql193 : ((((rd_T51 l0 x13_1).f0) : Int) < (5 : Int)) = True := eq_true (of_decide_eq_true (by first | (with_reducible assumption) | assumption)); obtain ⟨ad193, e193, hx193_0⟩ := Kd.at_int HRGsiz.out ((rd_T51 l0 x13_1).f0) p193 q193; obtain rfl : (⟨0, 0, none⟩ : Addr) = ad193 := (by injection e193); (first | simp only [add_plain] at hx193_0 | simp only [add_at] at hx193_0 | simp only [Addr.add, Nat.zero_add] at hx193_0 | skip); have hn193_0 : (⟨0, 0, none⟩ : Addr).block ≠ gb186 := Nat.ne_of_lt (Nat.lt_of_lt_of_le (by have := World.block_lt_of_cell? _ _ hx193_0; first | rwa [add_block] at this | exact this) GW186.out); have hn193_1 : (⟨0, 0, none⟩ : Addr).block ≠ gb186 := Nat.ne_of_lt (Nat.lt_of_lt_of_le (by have := World.block_lt_of_cell? _ _ hx193_0; first | rwa [add_block] at this | exact this) GW186.out); have hn193_2 : (⟨0, 0, none⟩ : Addr).block ≠ gb186 := Nat.ne_of_lt (Nat.lt_of_lt_of_le (by have := World.block_lt_of_cell? _ _ hx193_0; first | rwa [add_block] at this | exact this) GW186.out); replace hx193_0 := (HB.out.cell (World.block_lt_of_cell? w _ hx193_0)).trans hx193_0; replace hx193_0 := (cell_far (p := ⟨gb186, 0, none⟩) (by first | (rw [add_block]; exact hn193_0) | (show (Addr.add _ _).block ≠ _; rw [add_block]; exact hn193_0) | exact hn193_0) (.int .i64 ((rd_T51 l0 x13_1).f0))).trans hx193_0; replace hx193_0 := (cell_far (p := ⟨gb186, 1, none⟩) (by first | (rw [add_block]; exact hn193_1) | (show (Addr.add _ _).block ≠ _; rw [add_block]; exact hn193_1) | exact hn193_1) (.int .u64 ((rd_T51 l0 x13_1).f1))).trans hx193_0; replace hx193_0 := (cell_far (p := ⟨gb186, 2, none⟩) (by first | (rw [add_block]; exact hn193_2) | (show (Addr.add _ _).block ≠ _; rw [add_block]; exact hn193_2) | exact hn193_2) (.string ((rd_T51 l0 x13_1).f2))).trans hx193_0; clear hn193_0; clear hn193_1; clear hn193_2; replace p193 := eq_true p193; replace q193 := eq_true q193))
                go_ret2
                exact ⟨by first | rfl | (simp [errW_none, errW_some] <;> rfl) | (simp only [← hji32, ← hji34]; first | rfl | (simp [errW_none, errW_some] <;> rfl)) | (simp [*, errW_none, errW_some] <;> rfl), bw⟩
               ·rw [if_neg c35] at H
                have c35b0 : decide (0 < (ji34)) = false := decide_eq_false c35
                clear c35
                replace H := Option.bind_eq_some_iff.mp H
                obtain ⟨t194, A380, H⟩ := H
                replace H : (codec_Encode.l0 k1 t194 l0 (l0.length : Int) (wrap64 (x13_1 + 1))) = some (r1, r2) := H
                have A38 := Aside0.mk A380
                clear A380
                have H' := Aside0.mk H
                clear H
                have p185 : 0 ≤ (x13_1 : Int) := of_decide_eq_true (by first | (with_reducible assumption) | assumption)
                have q185 : x13_1 < (l0.length : Int) := of_decide_eq_true (by first | (with_reducible assumption) | assumption)
                obtain ⟨ad185, e185, hx185_0, hx185_1, hx185_2⟩ := at_T51 HR0.out x13_1 p185 q185
                cases e185
                replace hx185_0 := (HB.out.cell (World.block_lt_of_cell? w _ hx185_0)).trans hx185_0
                replace hx185_1 := (HB.out.cell (World.block_lt_of_cell? w _ hx185_1)).trans hx185_1
                replace hx185_2 := (HB.out.cell (World.block_lt_of_cell? w _ hx185_2)).trans hx185_2
                replace p185 := eq_true p185
                replace q185 := eq_true q185
                go_wp2_with (first | ((with_reducible refine gate_dst (N := 6) rfl ?_); refine box_event ?hg (N := 6) ?hd (cs := #[.int .i64 0, .int .u64 0, .string (⟨#[]⟩ : ByteArray)]) (t := 51) ?hr ?_; (case hd => rfl); (case hg => rfl); (case hr => first | (go_simp; done) | (go_simp; rfl)); intro gb186 hg w39 hbox hb; have n0_ := Aside0.mk (Kd.R_below (by (with_reducible repeat (first | apply Kd.R_alloc | apply Kd.R_drewN | apply Kd.R_drew)); exact HO_4.out) hb); have n1_ := Aside0.mk (below_step bw hb); have n2_ := Aside0.mk (hbox); have n3_ := Aside0.mk ((g1 hg bw : w.heap.size ≤ gb186)); have n4_ := Aside0.mk ((g1 hg bw : w.heap.size ≤ gb186)); clear HO_4; clear HB; have HO_4 := n0_; have HB := n1_; have BK186 := n2_; have GW186 := n3_; have GE186 := n4_; clear n0_ n1_ n2_ n3_ n4_; clear hb hbox hg; have hcz40_0 := bc3_0 BK186.out; have hcz40_1 := bc3_1 BK186.out; have hcz40_2 := bc3_2 BK186.out; have hfz40_0 := blk_frozen BK186.out 0; have hfz40_1 := blk_frozen BK186.out 1; have hfz40_2 := blk_frozen BK186.out 2) | ((with_reducible refine gate_store (t := 51) (p := 6) rfl ?_); refine store_event (t := 51) (p := 6) (v := ?vo_w41) (w1 := (((w39.setCell ⟨gb186, 0, none⟩ (.int .i64 ((rd_T51 l0 x13_1).f0))).setCell ⟨gb186, 1, none⟩ (.int .u64 ((rd_T51 l0 x13_1).f1))).setCell ⟨gb186, 2, none⟩ (.string ((rd_T51 l0 x13_1).f2)))) ?hg ?ho ?hn ?hr ?_; (case ho => rfl); (case hg => rfl); (case hn => rfl); (case hr => first | (go_simp; done) | (go_simp; rfl)); intro w41 hw; have n0_ : Aside0 (Kd.R (Kd.int .u8) 5 w41 w.heap.size (fun _ => True) u4 x4_1) := ⟨(by rw [hw]; exact (by (with_reducible repeat (first | apply Kd.R_alloc | apply Kd.R_drewN | apply Kd.R_drew)); exact Kd.R_mono (Kd.R_far (p := ⟨gb186, 2, none⟩) (Kd.R_far (p := ⟨gb186, 1, none⟩) (Kd.R_far (p := ⟨gb186, 0, none⟩) (Kd.R_types HO_4.out BK186.out (by decide)) (fun _ hk => hk.2) (.int .i64 ((rd_T51 l0 x13_1).f0))) (fun _ hk => hk.2) (.int .u64 ((rd_T51 l0 x13_1).f1))) (fun _ hk => hk.2) (.string ((rd_T51 l0 x13_1).f2))) (fun _ hk => trivial)))⟩; have n1_ : Aside0 (w41.heap[gb186]? = some (.cells #[.int .i64 ((rd_T51 l0 x13_1).f0), .int .u64 ((rd_T51 l0 x13_1).f1), .string ((rd_T51 l0 x13_1).f2)] 51 (0, 0))) := ⟨(by rw [hw]; exact (by (with_reducible repeat (first | refine blk_drewN ?_ _ | refine blk_drew ?_ | refine blk_alloc ?_ _)); refine blk_put (cs := #[.int .i64 ((rd_T51 l0 x13_1).f0), .int .u64 ((rd_T51 l0 x13_1).f1), .string (⟨#[]⟩ : ByteArray)]) ?_ 2 _ rfl; (with_reducible repeat (first | refine blk_drewN ?_ _ | refine blk_drew ?_ | refine blk_alloc ?_ _)); refine blk_put (cs := #[.int .i64 ((rd_T51 l0 x13_1).f0), .int .u64 0, .string (⟨#[]⟩ : ByteArray)]) ?_ 1 _ rfl; (with_reducible repeat (first | refine blk_drewN ?_ _ | refine blk_drew ?_ | refine blk_alloc ?_ _)); refine blk_put (cs := #[.int .i64 0, .int .u64 0, .string (⟨#[]⟩ : ByteArray)]) ?_ 0 _ rfl; (with_reducible repeat (first | refine blk_drewN ?_ _ | refine blk_drew ?_ | refine blk_alloc ?_ _)); exact BK186.out))⟩; have n2_ : Aside0 (Below w.heap.size w w41) := ⟨(by rw [hw]; exact bw)⟩; clear hw; clear HO_4; clear BK186; clear HB; have HO_4 := n0_; have BK186 := n1_; have HB := n2_; clear n0_ n1_ n2_; have hcz42_0 := bc3_0 BK186.out; have hcz42_1 := bc3_1 BK186.out; have hcz42_2 := bc3_2 BK186.out; have hfz42_0 := blk_frozen BK186.out 0; have hfz42_1 := blk_frozen BK186.out 1; have hfz42_2 := blk_frozen BK186.out 2; have p193 : 0 ≤ (((rd_T51 l0 x13_1).f0) : Int) := of_decide_eq_true (by first | (with_reducible assumption) | assumption); have q193 : ((rd_T51 l0 x13_1).f0) < (sizTabI.length : Int) := of_decide_eq_true (by first | (with_reducible assumption) | assumption); have ql193 : ((((rd_T51 l0 x13_1).f0) : Int) < (5 : Int)) = True := eq_true (of_decide_eq_true (by first | (with_reducible assumption) | assumption)); obtain ⟨ad193, e193, hx193_0⟩ := Kd.at_int HRGsiz.out ((rd_T51 l0 x13_1).f0) p193 q193; obtain rfl : (⟨0, 0, none⟩ : Addr) = ad193 := (by injection e193); (first | simp only [add_plain] at hx193_0 | simp only [add_at] at hx193_0 | simp only [Addr.add, Nat.zero_add] at hx193_0 | skip); replace hx193_0 := (HB.out.cell (World.block_lt_of_cell? w _ hx193_0)).trans hx193_0; replace p193 := eq_true p193; replace q193 := eq_true q193; obtain ⟨Ao43, co43, eo43⟩ := Kd.R_slice HO_4.out; subst eo43) | ((with_reducible refine gate_callee (f := 23) rfl ?_); refine goesL_ (some 67) rfl rfl Tryd.func23 (by kernel_rfl) rfl #[.slice Ao43 x4_1.length co43, .int .u64 ((rd_T51 l0 x13_1).f1), .int .i64 (rd sizTabI ((rd_T51 l0 x13_1).f0))] rfl am ?_; (with_reducible refine (codec_put.calls k1 (fun k_ => some k_ = (.slice Ao43 x4_1.length co43 : Value).ownBlock) (.slice Ao43 x4_1.length co43) x4_1 ((rd_T51 l0 x13_1).f1) (rd sizTabI ((rd_T51 l0 x13_1).f0)) t194 w _ ?side1 ?side2 A38.out).mono ?_); (case side1 => repeat (first | (with_reducible first | exact HB.out | apply below_alloc | apply pw_below_drewN | apply below_drew1 | refine below_set ?_ GE186.out) | exact HB.out)); (case side2 => exact Kd.R_tight rfl HO_4.out); rintro e w44 ⟨v195, rfl, ho0, hb, hkp⟩; refine ⟨_, rfl, ?_⟩; have n0_ := Aside0.mk (blk_kept (bk BK186.out) hkp (fun hs_ => (fun e_ => (Kd.R_ne HO_4.out BK186.out (by decide)) e_) hs_)); have n1_ := Aside0.mk (Kd.R_mono (ok' := fun k_ => True) ho0 (fun k_ hk_ => trivial)); have n2_ := Aside0.mk (hb); clear BK186; clear HB; clear HO_4; have BK186 := n0_; have HO196 := n1_; have HB := n2_; clear n0_ n1_ n2_; (try clear hb); (try clear hkp); (try clear ho0)))
                go_roundg k1
                case measure => have := HK1.out; omega
                case rel => (try rw [hji32]); (try rw [hji34]); exact ⟨(t194), (wrap64 (x13_1 + 1)), (by first | rfl | (simp; done) | (simp [*]; done)), H', ⟨by have := HK1.out; omega⟩, ⟨by (with_reducible repeat (first | apply Kd.R_alloc | apply Kd.R_drewN | apply Kd.R_drew)); exact HO196.out⟩, ⟨bw⟩⟩
              ·rw [if_neg c33] at H
               exact absurd H (by simp)
             ·rw [if_neg c31] at H
              have c31b0 : decide ((rd sizTabI ((rd_T51 l0 x13_1).f0)) < 8) = false := decide_eq_false c31
              clear c31
              replace H := Option.bind_eq_some_iff.mp H
              obtain ⟨t197, A450, H⟩ := H
              replace H : (codec_Encode.l0 k1 t197 l0 (l0.length : Int) (wrap64 (x13_1 + 1))) = some (r1, r2) := H
              have A45 := Aside0.mk A450
              clear A450
              have H' := Aside0.mk H
              clear H
              have p185 : 0 ≤ (x13_1 : Int) := of_decide_eq_true (by first | (with_reducible assumption) | assumption)
              have q185 : x13_1 < (l0.length : Int) := of_decide_eq_true (by first | (with_reducible assumption) | assumption)
              obtain ⟨ad185, e185, hx185_0, hx185_1, hx185_2⟩ := at_T51 HR0.out x13_1 p185 q185
              cases e185
              replace hx185_0 := (HB.out.cell (World.block_lt_of_cell? w _ hx185_0)).trans hx185_0
              replace hx185_1 := (HB.out.cell (World.block_lt_of_cell? w _ hx185_1)).trans hx185_1
              replace hx185_2 := (HB.out.cell (World.block_lt_of_cell? w _ hx185_2)).trans hx185_2
              replace p185 := eq_true p185
              replace q185 := eq_true q185
              go_wp2_with (first | ((with_reducible refine gate_dst (N := 6) rfl ?_); refine box_event ?hg (N := 6) ?hd (cs := #[.int .i64 0, .int .u64 0, .string (⟨#[]⟩ : ByteArray)]) (t := 51) ?hr ?_; (case hd => rfl); (case hg => rfl); (case hr => first | (go_simp; done) | (go_simp; rfl)); intro gb186 hg w46 hbox hb; have n0_ := Aside0.mk (Kd.R_below (by (with_reducible repeat (first | apply Kd.R_alloc | apply Kd.R_drewN | apply Kd.R_drew)); exact HO_4.out) hb); have n1_ := Aside0.mk (below_step bw hb); have n2_ := Aside0.mk (hbox); have n3_ := Aside0.mk ((g1 hg bw : w.heap.size ≤ gb186)); have n4_ := Aside0.mk ((g1 hg bw : w.heap.size ≤ gb186)); clear HO_4; clear HB; have HO_4 := n0_; have HB := n1_; have BK186 := n2_; have GW186 := n3_; have GE186 := n4_; clear n0_ n1_ n2_ n3_ n4_; clear hb hbox hg; have hcz47_0 := bc3_0 BK186.out; have hcz47_1 := bc3_1 BK186.out; have hcz47_2 := bc3_2 BK186.out; have hfz47_0 := blk_frozen BK186.out 0; have hfz47_1 := blk_frozen BK186.out 1; have hfz47_2 := blk_frozen BK186.out 2) | ((with_reducible refine gate_store (t := 51) (p := 6) rfl ?_); refine store_event (t := 51) (p := 6) (v := ?vo_w48) (w1 := (((w46.setCell ⟨gb186, 0, none⟩ (.int .i64 ((rd_T51 l0 x13_1).f0))).setCell ⟨gb186, 1, none⟩ (.int .u64 ((rd_T51 l0 x13_1).f1))).setCell ⟨gb186, 2, none⟩ (.string ((rd_T51 l0 x13_1).f2)))) ?hg ?ho ?hn ?hr ?_; (case ho => rfl); (case hg => rfl); (case hn => rfl); (case hr => first | (go_simp; done) | (go_simp; rfl)); intro w48 hw; have n0_ : Aside0 (Kd.R (Kd.int .u8) 5 w48 w.heap.size (fun _ => True) u4 x4_1) := ⟨(by rw [hw]; exact (by (with_reducible repeat (first | apply Kd.R_alloc | apply Kd.R_drewN | apply Kd.R_drew)); exact Kd.R_mono (Kd.R_far (p := ⟨gb186, 2, none⟩) (Kd.R_far (p := ⟨gb186, 1, none⟩) (Kd.R_far (p := ⟨gb186, 0, none⟩) (Kd.R_types HO_4.out BK186.out (by decide)) (fun _ hk => hk.2) (.int .i64 ((rd_T51 l0 x13_1).f0))) (fun _ hk => hk.2) (.int .u64 ((rd_T51 l0 x13_1).f1))) (fun _ hk => hk.2) (.string ((rd_T51 l0 x13_1).f2))) (fun _ hk => trivial)))⟩; have n1_ : Aside0 (w48.heap[gb186]? = some (.cells #[.int .i64 ((rd_T51 l0 x13_1).f0), .int .u64 ((rd_T51 l0 x13_1).f1), .string ((rd_T51 l0 x13_1).f2)] 51 (0, 0))) := ⟨(by rw [hw]; exact (by (with_reducible repeat (first | refine blk_drewN ?_ _ | refine blk_drew ?_ | refine blk_alloc ?_ _)); refine blk_put (cs := #[.int .i64 ((rd_T51 l0 x13_1).f0), .int .u64 ((rd_T51 l0 x13_1).f1), .string (⟨#[]⟩ : ByteArray)]) ?_ 2 _ rfl; (with_reducible repeat (first | refine blk_drewN ?_ _ | refine blk_drew ?_ | refine blk_alloc ?_ _)); refine blk_put (cs := #[.int .i64 ((rd_T51 l0 x13_1).f0), .int .u64 0, .string (⟨#[]⟩ : ByteArray)]) ?_ 1 _ rfl; (with_reducible repeat (first | refine blk_drewN ?_ _ | refine blk_drew ?_ | refine blk_alloc ?_ _)); refine blk_put (cs := #[.int .i64 0, .int .u64 0, .string (⟨#[]⟩ : ByteArray)]) ?_ 0 _ rfl; (with_reducible repeat (first | refine blk_drewN ?_ _ | refine blk_drew ?_ | refine blk_alloc ?_ _)); exact BK186.out))⟩; have n2_ : Aside0 (Below w.heap.size w w48) := ⟨(by rw [hw]; exact bw)⟩; clear hw; clear HO_4; clear BK186; clear HB; have HO_4 := n0_; have BK186 := n1_; have HB := n2_; clear n0_ n1_ n2_; have hcz49_0 := bc3_0 BK186.out; have hcz49_1 := bc3_1 BK186.out; have hcz49_2 := bc3_2 BK186.out; have hfz49_0 := blk_frozen BK186.out 0; have hfz49_1 := blk_frozen BK186.out 1; have hfz49_2 := blk_frozen BK186.out 2; have p193 : 0 ≤ (((rd_T51 l0 x13_1).f0) : Int) := of_decide_eq_true (by first | (with_reducible assumption) | assumption); have q193 : ((rd_T51 l0 x13_1).f0) < (sizTabI.length : Int) := of_decide_eq_true (by first | (with_reducible assumption) | assumption); have ql193 : ((((rd_T51 l0 x13_1).f0) : Int) < (5 : Int)) = True := eq_true (of_decide_eq_true (by first | (with_reducible assumption) | assumption)); obtain ⟨ad193, e193, hx193_0⟩ := Kd.at_int HRGsiz.out ((rd_T51 l0 x13_1).f0) p193 q193; obtain rfl : (⟨0, 0, none⟩ : Addr) = ad193 := (by injection e193); (first | simp only [add_plain] at hx193_0 | simp only [add_at] at hx193_0 | simp only [Addr.add, Nat.zero_add] at hx193_0 | skip); replace hx193_0 := (HB.out.cell (World.block_lt_of_cell? w _ hx193_0)).trans hx193_0; replace p193 := eq_true p193; replace q193 := eq_true q193; obtain ⟨Ao50, co50, eo50⟩ := Kd.R_slice HO_4.out; subst eo50) | ((with_reducible refine gate_callee (f := 23) rfl ?_); refine goesL_ (some 67) rfl rfl Tryd.func23 (by kernel_rfl) rfl #[.slice Ao50 x4_1.length co50, .int .u64 ((rd_T51 l0 x13_1).f1), .int .i64 (rd sizTabI ((rd_T51 l0 x13_1).f0))] rfl am ?_; (with_reducible refine (codec_put.calls k1 (fun k_ => some k_ = (.slice Ao50 x4_1.length co50 : Value).ownBlock) (.slice Ao50 x4_1.length co50) x4_1 ((rd_T51 l0 x13_1).f1) (rd sizTabI ((rd_T51 l0 x13_1).f0)) t197 w _ ?side1 ?side2 A45.out).mono ?_); (case side1 => repeat (first | (with_reducible first | exact HB.out | apply below_alloc | apply pw_below_drewN | apply below_drew1 | refine below_set ?_ GE186.out) | exact HB.out)); (case side2 => exact Kd.R_tight rfl HO_4.out); rintro e w51 ⟨v198, rfl, ho0, hb, hkp⟩; refine ⟨_, rfl, ?_⟩; have n0_ := Aside0.mk (blk_kept (bk BK186.out) hkp (fun hs_ => (fun e_ => (Kd.R_ne HO_4.out BK186.out (by decide)) e_) hs_)); have n1_ := Aside0.mk (Kd.R_mono (ok' := fun k_ => True) ho0 (fun k_ hk_ => trivial)); have n2_ := Aside0.mk (hb); clear BK186; clear HB; clear HO_4; have BK186 := n0_; have HO199 := n1_; have HB := n2_; clear n0_ n1_ n2_; (try clear hb); (try clear hkp); (try clear ho0)))
              go_roundg k1
              case measure => have := HK1.out; omega
              case rel => exact ⟨(t197), (wrap64 (x13_1 + 1)), (by first | rfl | (simp; done) | (simp [*]; done)), H', ⟨by have := HK1.out; omega⟩, ⟨by (with_reducible repeat (first | apply Kd.R_alloc | apply Kd.R_drewN | apply Kd.R_drew)); exact HO199.out⟩, ⟨bw⟩⟩
            ·rw [if_neg c30] at H
             have c30b0 : (((rd_T51 l0 x13_1).f2).toList == ([] : List UInt8)) = false := beq_eq_false_iff_ne.mpr c30
             have c30b1 : (((rd_T51 l0 x13_1).f2).toList != ([] : List UInt8)) = true := bne_iff_ne.mpr c30
             simp only [Option.some.injEq, Prod.mk.injEq] at H
             obtain ⟨rfl, rfl⟩ := H
             have p185 : 0 ≤ (x13_1 : Int) := of_decide_eq_true (by first | (with_reducible assumption) | assumption)
             have q185 : x13_1 < (l0.length : Int) := of_decide_eq_true (by first | (with_reducible assumption) | assumption)
             obtain ⟨ad185, e185, hx185_0, hx185_1, hx185_2⟩ := at_T51 HR0.out x13_1 p185 q185
             cases e185
             replace hx185_0 := (HB.out.cell (World.block_lt_of_cell? w _ hx185_0)).trans hx185_0
             replace hx185_1 := (HB.out.cell (World.block_lt_of_cell? w _ hx185_1)).trans hx185_1
             replace hx185_2 := (HB.out.cell (World.block_lt_of_cell? w _ hx185_2)).trans hx185_2
             replace p185 := eq_true p185
             replace q185 := eq_true q185
             go_wp2_with (first | ((with_reducible refine gate_dst (N := 6) rfl ?_); refine box_event ?hg (N := 6) ?hd (cs := #[.int .i64 0, .int .u64 0, .string (⟨#[]⟩ : ByteArray)]) (t := 51) ?hr ?_; (case hd => rfl); (case hg => rfl); (case hr => first | (go_simp; done) | (go_simp; rfl)); intro gb186 hg w52 hbox hb; have n0_ := Aside0.mk (Kd.R_below (by (with_reducible repeat (first | apply Kd.R_alloc | apply Kd.R_drewN | apply Kd.R_drew)); exact HO_4.out) hb); have n1_ := Aside0.mk (below_step bw hb); have n2_ := Aside0.mk (hbox); have n3_ := Aside0.mk ((g1 hg bw : w.heap.size ≤ gb186)); have n4_ := Aside0.mk ((g1 hg bw : w.heap.size ≤ gb186)); clear HO_4; clear HB; have HO_4 := n0_; have HB := n1_; have BK186 := n2_; have GW186 := n3_; have GE186 := n4_; clear n0_ n1_ n2_ n3_ n4_; clear hb hbox hg; have hcz53_0 := bc3_0 BK186.out; have hcz53_1 := bc3_1 BK186.out; have hcz53_2 := bc3_2 BK186.out; have hfz53_0 := blk_frozen BK186.out 0; have hfz53_1 := blk_frozen BK186.out 1; have hfz53_2 := blk_frozen BK186.out 2; have p193 : 0 ≤ (((rd_T51 l0 x13_1).f0) : Int) := of_decide_eq_true (by first | (with_reducible assumption) | assumption); have q193 : ((rd_T51 l0 x13_1).f0) < (sizTabI.length : Int) := of_decide_eq_true (by first | (with_reducible assumption) | assumption); have ql193 : ((((rd_T51 l0 x13_1).f0) : Int) < (5 : Int)) = True := eq_true (of_decide_eq_true (by first | (with_reducible assumption) | assumption)); obtain ⟨ad193, e193, hx193_0⟩ := Kd.at_int HRGsiz.out ((rd_T51 l0 x13_1).f0) p193 q193; obtain rfl : (⟨0, 0, none⟩ : Addr) = ad193 := (by injection e193); (first | simp only [add_plain] at hx193_0 | simp only [add_at] at hx193_0 | simp only [Addr.add, Nat.zero_add] at hx193_0 | skip); have hn193_0 : (⟨0, 0, none⟩ : Addr).block ≠ gb186 := Nat.ne_of_lt (Nat.lt_of_lt_of_le (by have := World.block_lt_of_cell? _ _ hx193_0; first | rwa [add_block] at this | exact this) GW186.out); have hn193_1 : (⟨0, 0, none⟩ : Addr).block ≠ gb186 := Nat.ne_of_lt (Nat.lt_of_lt_of_le (by have := World.block_lt_of_cell? _ _ hx193_0; first | rwa [add_block] at this | exact this) GW186.out); have hn193_2 : (⟨0, 0, none⟩ : Addr).block ≠ gb186 := Nat.ne_of_lt (Nat.lt_of_lt_of_le (by have := World.block_lt_of_cell? _ _ hx193_0; first | rwa [add_block] at this | exact this) GW186.out); replace hx193_0 := (HB.out.cell (World.block_lt_of_cell? w _ hx193_0)).trans hx193_0; replace hx193_0 := (cell_far (p := ⟨gb186, 0, none⟩) (by first | (rw [add_block]; exact hn193_0) | (show (Addr.add _ _).block ≠ _; rw [add_block]; exact hn193_0) | exact hn193_0) (.int .i64 ((rd_T51 l0 x13_1).f0))).trans hx193_0; replace hx193_0 := (cell_far (p := ⟨gb186, 1, none⟩) (by first | (rw [add_block]; exact hn193_1) | (show (Addr.add _ _).block ≠ _; rw [add_block]; exact hn193_1) | exact hn193_1) (.int .u64 ((rd_T51 l0 x13_1).f1))).trans hx193_0; replace hx193_0 := (cell_far (p := ⟨gb186, 2, none⟩) (by first | (rw [add_block]; exact hn193_2) | (show (Addr.add _ _).block ≠ _; rw [add_block]; exact hn193_2) | exact hn193_2) (.string ((rd_T51 l0 x13_1).f2))).trans hx193_0; clear hn193_0; clear hn193_1; clear hn193_2; replace p193 := eq_true p193; replace q193 := eq_true q193))
             go_ret2
             exact ⟨er, bw⟩
           ·rw [if_neg c29] at H
            exact absurd H (by simp)
          ·rw [if_neg c28] at H
           exact absurd H (by simp)
      ·rw [if_neg c5] at H
       exact absurd H (by simp)
     ·rw [if_neg c4] at H
      exact absurd H (by simp)
    ·rw [if_neg c3] at H
     have c3b0 : decide (x13_1 < (l0.length : Int)) = false := decide_eq_false c3
     clear c3
     simp only [Option.some.injEq, Prod.mk.injEq] at H
     obtain ⟨rfl, rfl⟩ := H
     have hcv54 := own_string (P := Tryd.prog) Tryd.underlying61 Tryd.underlying5 Tryd.underlying9 (Kd.own_of_R HO_4.out)
     go_wp2
     go_ret2
     exact ⟨er, bw⟩

/-! ### acceptor_Encode: function 7 -/
def acceptor_Encode.f (k : Nat) (a0_0 : Int) (a0_1 : Int) (a0_2 : Int) (a0_3 : Int) (a0_4 : ByteArray) : Option (ByteArray × Int) := (acceptor_right.f a0_0 a0_1 a0_2 a0_3 a0_4).bind fun t201 => (if t201 = true then ((some (([(⟨3, IntKind.u64.wrap (a0_0), (⟨#[]⟩ : ByteArray)⟩ : S51), (⟨1, IntKind.u64.wrap (a0_1), (⟨#[]⟩ : ByteArray)⟩ : S51)] : List (S51)) : List (S51))).bind fun y203 => (if ([] : List (S51)).length + y203.length < 4398046511104 then ((some (([] : List (S51)) ++ y203 : List (S51))).bind fun y206 => ((some (([(⟨3, IntKind.u64.wrap (a0_2), (⟨#[]⟩ : ByteArray)⟩ : S51), (⟨1, IntKind.u64.wrap (a0_3), (⟨#[]⟩ : ByteArray)⟩ : S51)] : List (S51)) : List (S51))).bind fun y210 => (if y206.length + y210.length < 4398046511104 then ((some (y206 ++ y210 : List (S51))).bind fun y213 => (if y213.length < 4398046511104 then ((codec_Encode.f k (y213 ++ [(⟨4, 0, a0_4⟩ : S51)])).bind fun bt219 => (some (bt219.1, bt219.2))) else (none))) else (none)))) else (none))) else (some ((⟨#[]⟩ : ByteArray), 1)))
theorem acceptor_Encode.mono : ∀ a0 a1 a2 a3 a4 k, LeO (acceptor_Encode.f k a0 a1 a2 a3 a4) (acceptor_Encode.f (k + 1) a0 a1 a2 a3 a4) := by
 intro a0 a1 a2 a3 a4 k
 unfold acceptor_Encode.f
 repeat' first
   | (with_reducible exact codec_Encode.mono _ _)
   | (with_reducible exact LeO.refl _)
   | (with_reducible exact LeO.none _)
   | (with_reducible refine LeO.ite ?_ ?_)
   | (with_reducible refine LeO.bind ?_ (fun _ => ?_))
   | exact codec_Encode.mono _ _
   | exact LeO.none _
   | refine LeO.ite ?_ ?_
   | refine LeO.bind ?_ (fun _ => ?_)
theorem ixacceptor_Encode_48_0 (c0 c1 c2 c3 : Value) (w_ : World) : (Instr.index 48 (.agg #[c0, c1, c2, c3]) (.int .i64 0)).run Tryd.prog w_ = .ok (.agg #[c0, c1]) w_ := run_index_agg (sz := 2) Tryd.underlying48 (by decide) (by go_simp) (by go_simp)
theorem ixacceptor_Encode_48_1 (c0 c1 c2 c3 : Value) (w_ : World) : (Instr.index 48 (.agg #[c0, c1, c2, c3]) (.int .i64 1)).run Tryd.prog w_ = .ok (.agg #[c2, c3]) w_ := run_index_agg (sz := 2) Tryd.underlying48 (by decide) (by go_simp) (by go_simp)
set_option maxHeartbeats 8000000 in
set_option maxRecDepth 100000 in
theorem acceptor_Encode.calls (k : Nat) (a0_0 : Int) (a0_1 : Int) (a0_2 : Int) (a0_3 : Int) (a0_4 : ByteArray) (r1 : ByteArray) (r2 : Int) (w : World) (HT_ : TabOk w) (h : acceptor_Encode.f k a0_0 a0_1 a0_2 a0_3 a0_4 = some (r1, r2)) :
  Calls Tryd.prog 7 #[.agg #[.int .i64 a0_0, .int .i64 a0_1, .int .i64 a0_2, .int .i64 a0_3, .string a0_4]] w fun e w' => e = .returned (.tuple #[.string r1, .int .i64 r2]) ∧ Below w.heap.size w w' := by
 have HT := Aside0.mk HT_
 clear HT_
 have hu25 := Tryd.underlying25
 have hu23 := Tryd.underlying23
 have hu48 := Tryd.underlying48
 have ix48_0_ := ixacceptor_Encode_48_0
 have ix48_1_ := ixacceptor_Encode_48_1
 have hu51 := Tryd.underlying51
 have HB := Aside0.mk (Below.refl w.heap.size w)
 have H : ((acceptor_right.f a0_0 a0_1 a0_2 a0_3 a0_4).bind fun t201 => (if t201 = true then ((some (([(⟨3, IntKind.u64.wrap (a0_0), (⟨#[]⟩ : ByteArray)⟩ : S51), (⟨1, IntKind.u64.wrap (a0_1), (⟨#[]⟩ : ByteArray)⟩ : S51)] : List (S51)) : List (S51))).bind fun y203 => (if ([] : List (S51)).length + y203.length < 4398046511104 then ((some (([] : List (S51)) ++ y203 : List (S51))).bind fun y206 => ((some (([(⟨3, IntKind.u64.wrap (a0_2), (⟨#[]⟩ : ByteArray)⟩ : S51), (⟨1, IntKind.u64.wrap (a0_3), (⟨#[]⟩ : ByteArray)⟩ : S51)] : List (S51)) : List (S51))).bind fun y210 => (if y206.length + y210.length < 4398046511104 then ((some (y206 ++ y210 : List (S51))).bind fun y213 => (if y213.length < 4398046511104 then ((codec_Encode.f k (y213 ++ [(⟨4, 0, a0_4⟩ : S51)])).bind fun bt219 => (some (bt219.1, bt219.2))) else (none))) else (none)))) else (none))) else (some ((⟨#[]⟩ : ByteArray), 1)))) = some (r1, r2) := h
 clear h
 replace H := Option.bind_eq_some_iff.mp H
 obtain ⟨t201, A20, H⟩ := H
 replace H : (if t201 = true then ((some (([(⟨3, IntKind.u64.wrap (a0_0), (⟨#[]⟩ : ByteArray)⟩ : S51), (⟨1, IntKind.u64.wrap (a0_1), (⟨#[]⟩ : ByteArray)⟩ : S51)] : List (S51)) : List (S51))).bind fun y203 => (if ([] : List (S51)).length + y203.length < 4398046511104 then ((some (([] : List (S51)) ++ y203 : List (S51))).bind fun y206 => ((some (([(⟨3, IntKind.u64.wrap (a0_2), (⟨#[]⟩ : ByteArray)⟩ : S51), (⟨1, IntKind.u64.wrap (a0_3), (⟨#[]⟩ : ByteArray)⟩ : S51)] : List (S51)) : List (S51))).bind fun y210 => (if y206.length + y210.length < 4398046511104 then ((some (y206 ++ y210 : List (S51))).bind fun y213 => (if y213.length < 4398046511104 then ((codec_Encode.f k (y213 ++ [(⟨4, 0, a0_4⟩ : S51)])).bind fun bt219 => (some (bt219.1, bt219.2))) else (none))) else (none)))) else (none))) else (some ((⟨#[]⟩ : ByteArray), 1))) = some (r1, r2) := H
 have A2 := Aside0.mk A20
 clear A20
 by_cases c3 : t201 = true
 ·subst c3
  have H1 : ((some (([(⟨3, IntKind.u64.wrap (a0_0), (⟨#[]⟩ : ByteArray)⟩ : S51), (⟨1, IntKind.u64.wrap (a0_1), (⟨#[]⟩ : ByteArray)⟩ : S51)] : List (S51)) : List (S51))).bind fun y203 => (if ([] : List (S51)).length + y203.length < 4398046511104 then ((some (([] : List (S51)) ++ y203 : List (S51))).bind fun y206 => ((some (([(⟨3, IntKind.u64.wrap (a0_2), (⟨#[]⟩ : ByteArray)⟩ : S51), (⟨1, IntKind.u64.wrap (a0_3), (⟨#[]⟩ : ByteArray)⟩ : S51)] : List (S51)) : List (S51))).bind fun y210 => (if y206.length + y210.length < 4398046511104 then ((some (y206 ++ y210 : List (S51))).bind fun y213 => (if y213.length < 4398046511104 then ((codec_Encode.f k (y213 ++ [(⟨4, 0, a0_4⟩ : S51)])).bind fun bt219 => (some (bt219.1, bt219.2))) else (none))) else (none)))) else (none))) = some (r1, r2) := by rw [if_pos rfl] at H; exact H
  clear H
  have H := H1
  clear H1
  obtain ⟨y203, hy203⟩ : ∃ y_ : List (S51), y_ = (([(⟨3, IntKind.u64.wrap (a0_0), (⟨#[]⟩ : ByteArray)⟩ : S51), (⟨1, IntKind.u64.wrap (a0_1), (⟨#[]⟩ : ByteArray)⟩ : S51)] : List (S51))) := ⟨_, rfl⟩
  replace H : (if ([] : List (S51)).length + y203.length < 4398046511104 then ((some (([] : List (S51)) ++ y203 : List (S51))).bind fun y206 => ((some (([(⟨3, IntKind.u64.wrap (a0_2), (⟨#[]⟩ : ByteArray)⟩ : S51), (⟨1, IntKind.u64.wrap (a0_3), (⟨#[]⟩ : ByteArray)⟩ : S51)] : List (S51)) : List (S51))).bind fun y210 => (if y206.length + y210.length < 4398046511104 then ((some (y206 ++ y210 : List (S51))).bind fun y213 => (if y213.length < 4398046511104 then ((codec_Encode.f k (y213 ++ [(⟨4, 0, a0_4⟩ : S51)])).bind fun bt219 => (some (bt219.1, bt219.2))) else (none))) else (none)))) else (none)) = some (r1, r2) := by first | (rw [hy203]; with_reducible exact H) | (have H2_ := (Option.bind_some _ _).symm.trans H; rw [hy203]; with_reducible exact H2_) | (have H2_ := (Option.bind_some _ _).symm.trans H; with_reducible exact H2_) | with_reducible exact H | (rw [hy203]; exact H) | exact H
  have Ny203 := Aside0.mk hy203
  clear hy203
  by_cases c4 : ([] : List (S51)).length + y203.length < 4398046511104
  ·rw [if_pos c4] at H
   have LMc4 := Aside0.mk c4
   clear c4
   obtain ⟨y206, hy206⟩ : ∃ y_ : List (S51), y_ = (([] : List (S51)) ++ y203) := ⟨_, rfl⟩
   replace H : ((some (([(⟨3, IntKind.u64.wrap (a0_2), (⟨#[]⟩ : ByteArray)⟩ : S51), (⟨1, IntKind.u64.wrap (a0_3), (⟨#[]⟩ : ByteArray)⟩ : S51)] : List (S51)) : List (S51))).bind fun y210 => (if y206.length + y210.length < 4398046511104 then ((some (y206 ++ y210 : List (S51))).bind fun y213 => (if y213.length < 4398046511104 then ((codec_Encode.f k (y213 ++ [(⟨4, 0, a0_4⟩ : S51)])).bind fun bt219 => (some (bt219.1, bt219.2))) else (none))) else (none))) = some (r1, r2) := by first | (rw [hy206]; with_reducible exact H) | (have H2_ := (Option.bind_some _ _).symm.trans H; rw [hy206]; with_reducible exact H2_) | (have H2_ := (Option.bind_some _ _).symm.trans H; with_reducible exact H2_) | with_reducible exact H | (rw [hy206]; exact H) | exact H
   have Ny206 := Aside0.mk hy206
   clear hy206
   obtain ⟨y210, hy210⟩ : ∃ y_ : List (S51), y_ = (([(⟨3, IntKind.u64.wrap (a0_2), (⟨#[]⟩ : ByteArray)⟩ : S51), (⟨1, IntKind.u64.wrap (a0_3), (⟨#[]⟩ : ByteArray)⟩ : S51)] : List (S51))) := ⟨_, rfl⟩
   replace H : (if y206.length + y210.length < 4398046511104 then ((some (y206 ++ y210 : List (S51))).bind fun y213 => (if y213.length < 4398046511104 then ((codec_Encode.f k (y213 ++ [(⟨4, 0, a0_4⟩ : S51)])).bind fun bt219 => (some (bt219.1, bt219.2))) else (none))) else (none)) = some (r1, r2) := by first | (rw [hy210]; with_reducible exact H) | (have H2_ := (Option.bind_some _ _).symm.trans H; rw [hy210]; with_reducible exact H2_) | (have H2_ := (Option.bind_some _ _).symm.trans H; with_reducible exact H2_) | with_reducible exact H | (rw [hy210]; exact H) | exact H
   have Ny210 := Aside0.mk hy210
   clear hy210
   by_cases c5 : y206.length + y210.length < 4398046511104
   ·rw [if_pos c5] at H
    have LMc5 := Aside0.mk c5
    clear c5
    obtain ⟨y213, hy213⟩ : ∃ y_ : List (S51), y_ = (y206 ++ y210) := ⟨_, rfl⟩
    replace H : (if y213.length < 4398046511104 then ((codec_Encode.f k (y213 ++ [(⟨4, 0, a0_4⟩ : S51)])).bind fun bt219 => (some (bt219.1, bt219.2))) else (none)) = some (r1, r2) := by first | (rw [hy213]; with_reducible exact H) | (have H2_ := (Option.bind_some _ _).symm.trans H; rw [hy213]; with_reducible exact H2_) | (have H2_ := (Option.bind_some _ _).symm.trans H; with_reducible exact H2_) | with_reducible exact H | (rw [hy213]; exact H) | exact H
    have Ny213 := Aside0.mk hy213
    clear hy213
    by_cases c6 : y213.length < 4398046511104
    ·rw [if_pos c6] at H
     have LMc6 := Aside0.mk c6
     clear c6
     obtain ⟨y216, hy216⟩ : ∃ y_ : List (S51), y_ = (y213 ++ [(⟨4, 0, a0_4⟩ : S51)]) := ⟨_, rfl⟩
     replace H : ((codec_Encode.f k y216).bind fun bt219 => (some (bt219.1, bt219.2))) = some (r1, r2) := by first | (rw [hy216]; with_reducible exact H) | (have H2_ := (Option.bind_some _ _).symm.trans H; rw [hy216]; with_reducible exact H2_) | (have H2_ := (Option.bind_some _ _).symm.trans H; with_reducible exact H2_) | with_reducible exact H | (rw [hy216]; exact H) | exact H
     have Ny216 := Aside0.mk hy216
     clear hy216
     replace H := Option.bind_eq_some_iff.mp H
     obtain ⟨⟨t219, t220⟩, A70, H⟩ := H
     replace H : (some (t219, t220)) = some (r1, r2) := H
     have A7 := Aside0.mk A70
     clear A70
     simp only [Option.some.injEq, Prod.mk.injEq] at H
     obtain ⟨rfl, rfl⟩ := H
     go_enter Tryd.func7, Tryd.ntmps7
     go_wp2_with (first | ((with_reducible refine gate_dst (N := 1) rfl ?_); refine box_event ?hg (N := 1) ?hd (cs := #[.int .i64 a0_0, .int .i64 a0_1, .int .i64 a0_2, .int .i64 a0_3, .string a0_4]) (t := 25) ?hr ?_; (case hd => rfl); (case hg => rfl); (case hr => first | (go_simp; done) | (go_simp; rfl)); intro gb200 hg w8 hbox hb; have n0_ := Aside0.mk (below_step bw hb); have n1_ := Aside0.mk (hbox); have n2_ := Aside0.mk ((g1 hg bw : w.heap.size ≤ gb200)); have n3_ := Aside0.mk ((g1 hg bw : w.heap.size ≤ gb200)); clear HB; have HB := n0_; have BK200 := n1_; have GW200 := n2_; have GE200 := n3_; clear n0_ n1_ n2_ n3_; clear hb hbox hg; have hcz9_0 := bc5_0 BK200.out; have hcz9_1 := bc5_1 BK200.out; have hcz9_2 := bc5_2 BK200.out; have hcz9_3 := bc5_3 BK200.out; have hcz9_4 := bc5_4 BK200.out; have hfz9_0 := blk_frozen BK200.out 0; have hfz9_1 := blk_frozen BK200.out 1; have hfz9_2 := blk_frozen BK200.out 2; have hfz9_3 := blk_frozen BK200.out 3; have hfz9_4 := blk_frozen BK200.out 4) | ((with_reducible refine gate_callee (f := 15) rfl ?_); refine goesL_ (some 8) rfl rfl Tryd.func15 (by kernel_rfl) rfl #[.agg #[.int .i64 a0_0, .int .i64 a0_1, .int .i64 a0_2, .int .i64 a0_3, .string a0_4]] rfl am ?_; (with_reducible refine (acceptor_right.calls a0_0 a0_1 a0_2 a0_3 a0_4 true _ A2.out).mono ?_); rintro e w10 ⟨rfl, hb⟩; refine ⟨_, rfl, ?_⟩; have n0_ := Aside0.mk (nb BK200.out hb); have n1_ := Aside0.mk (below_step bw hb); clear BK200; clear HB; have BK200 := n0_; have HB := n1_; clear n0_ n1_; (try clear hb); (try clear hb2); (try clear hk); (try clear hi); have hcz11_0 := bc5_0 BK200.out; have hcz11_1 := bc5_1 BK200.out; have hcz11_2 := bc5_2 BK200.out; have hcz11_3 := bc5_3 BK200.out; have hcz11_4 := bc5_4 BK200.out; have hfz11_0 := blk_frozen BK200.out 0; have hfz11_1 := blk_frozen BK200.out 1; have hfz11_2 := blk_frozen BK200.out 2; have hfz11_3 := blk_frozen BK200.out 3; have hfz11_4 := blk_frozen BK200.out 4))
     first | refine wp_loop_enter (loopAt_once fun _ _ => ?_) | refine loopAt_once fun _ _ => ?_ | (go_step; refine loopAt_once fun _ _ => ?_)
     go_wp2_with (first | ((with_reducible refine gate_dst (N := 6) rfl ?_); refine box_event ?hg (N := 6) ?hd (cs := #[.int .i64 0, .int .i64 0]) (t := 23) ?hr ?_; (case hd => rfl); (case hg => rfl); (case hr => first | (go_simp; done) | (go_simp; rfl)); intro gb202 hg w12 hbox hb; have n0_ := Aside0.mk (nb BK200.out hb); have n1_ := Aside0.mk (below_step bw hb); have n2_ := Aside0.mk (hbox); have n3_ := Aside0.mk ((g1 hg bw : w.heap.size ≤ gb202)); have n4_ := Aside0.mk ((g1 hg bw : w.heap.size ≤ gb202)); have n5_ := Aside0.mk ((n1 hg BK200.out : gb200 ≠ gb202)); have n6_ := Aside0.mk ((n2 hg BK200.out : gb202 ≠ gb200)); clear BK200; clear HB; have BK200 := n0_; have HB := n1_; have BK202 := n2_; have GW202 := n3_; have GE202 := n4_; have NB200_202 := n5_; have NB202_200 := n6_; clear n0_ n1_ n2_ n3_ n4_ n5_ n6_; clear hb hbox hg; have hnb13 := NB202_200.out; have hnc13 := NB200_202.out; have hcz14_0 := bc2_0 BK202.out; have hcz14_1 := bc2_1 BK202.out; have hfz14_0 := blk_frozen BK202.out 0; have hfz14_1 := blk_frozen BK202.out 1) | ((with_reducible refine gate_dst (N := 27) rfl ?_); refine Kd.R_lit k51 _ 51 ?hg (N := 27) ?hd (xs := ([(⟨3, IntKind.u64.wrap (a0_0), (⟨#[]⟩ : ByteArray)⟩ : S51), (⟨1, IntKind.u64.wrap (a0_1), (⟨#[]⟩ : ByteArray)⟩ : S51)] : List (S51))) (inner := [.int .i64 3, .int .u64 (IntKind.u64.wrap (a0_0)), .string (⟨#[]⟩ : ByteArray), .int .i64 1, .int .u64 (IntKind.u64.wrap (a0_1)), .string (⟨#[]⟩ : ByteArray)]) (ok := fun _ => True) (okp := fun _ => True) ?hr ?hp (fun _ hk => hk) trivial (Below.refl _ _) (Nat.le_refl _) (by simp) ?_; (case hd => rfl); (case hg => rfl); (case hr => first | (go_simp; done) | (go_simp; rfl)); (case hp => exact (Reps.c3 (show Kd.M k51 _ _ _ (⟨3, IntKind.u64.wrap (a0_0), (⟨#[]⟩ : ByteArray)⟩ : S51) [.int .i64 3, .int .u64 (IntKind.u64.wrap (a0_0)), .string (⟨#[]⟩ : ByteArray)] from (k51_mkM _ _ _ (⟨3, IntKind.u64.wrap (a0_0), (⟨#[]⟩ : ByteArray)⟩ : S51) )) (Reps.c3 (show Kd.M k51 _ _ _ (⟨1, IntKind.u64.wrap (a0_1), (⟨#[]⟩ : ByteArray)⟩ : S51) [.int .i64 1, .int .u64 (IntKind.u64.wrap (a0_1)), .string (⟨#[]⟩ : ByteArray)] from (k51_mkM _ _ _ (⟨1, IntKind.u64.wrap (a0_1), (⟨#[]⟩ : ByteArray)⟩ : S51) )) (Reps.none _ _)))); intro v204 w15 ho16 hb hg_ hnew_; clear hg_ hnew_; (first | rw [← Ny203.out] at ho16 | (simp only [Int.reduceToNat] at ho16; rw [← Ny203.out] at ho16)); have n0_ := Aside0.mk (Kd.R_lower ho16 (below_size bw)); have n1_ := Aside0.mk (blk_below (g := gb200) (o := .cells #[.int .i64 a0_0, .int .i64 a0_1, .int .i64 a0_2, .int .i64 a0_3, .string a0_4] 25 (0, 0)) (by (with_reducible repeat (first | refine blk_drewN ?_ _ | refine blk_drew ?_ | refine blk_alloc ?_ _ | refine blk_far ?_ NB200_202.out _)); exact BK200.out) hb); have n2_ := Aside0.mk (blk_below (g := gb202) (o := .cells #[.int .i64 a0_0, .int .i64 a0_1] 23 (0, 0)) (by (with_reducible repeat (first | refine blk_drewN ?_ _ | refine blk_drew ?_ | refine blk_alloc ?_ _)); refine blk_put (cs := #[.int .i64 a0_0, .int .i64 0]) ?_ 1 _ rfl; (with_reducible repeat (first | refine blk_drewN ?_ _ | refine blk_drew ?_ | refine blk_alloc ?_ _)); refine blk_put (cs := #[.int .i64 0, .int .i64 0]) ?_ 0 _ rfl; (with_reducible repeat (first | refine blk_drewN ?_ _ | refine blk_drew ?_ | refine blk_alloc ?_ _)); exact BK202.out) hb); have n3_ := Aside0.mk (below_step bw hb); clear BK200; clear BK202; clear HB; have HO205 := n0_; have BK200 := n1_; have BK202 := n2_; have HB := n3_; clear n0_ n1_ n2_ n3_; clear hb ho16; obtain ⟨Ao18, co18, eo18⟩ := Kd.R_slice HO205.out; subst eo18) | ((with_reducible refine gate_builtin (b := .append) (xs := #[.tmp 18, .tmp 27]) rfl ?_); at_builtin; refine Kd.R_append_rows k51 (w0 := w) w.heap.size rfl (.tmp 18) (.tmp 27) 47 51 (.agg #[(.int .i64 0), (.int .u64 0), (.string ⟨#[]⟩)]) 32 rfl Tryd.underlying47 info51 rfl (by decide) (by omega) (.slice none 0 0) ([] : List (S51)) y203 _ _ _ (fun k_ => some k_ ≠ (.slice Ao18 y203.length co18 : Value).ownBlock) (fun _ => False) rfl rfl ?aO ?aR (fun _ _ h => h) (fun _ h => h.elim) ?aF ?aB ?aS ?aL ?_; (case aR => repeat (first | exact (Kd.R_reads' HO205.out).2.2 | (with_reducible refine Kd.C_alloc ?_ _) | (with_reducible refine Kd.C_drewN ?_ _) | (with_reducible refine Kd.C_drew ?_))); (case aB => exact bw); (case aF => exact (fun k_ hk => Kd.fresh' (Kd.R_lt (by (with_reducible repeat (first | apply Kd.R_alloc | apply Kd.R_drewN | apply Kd.R_drew)); exact HO205.out)) k_ hk)); (case aO => exact ((Kd.R_nil _ _ _ _ (fun k_ => some k_ ≠ (.slice Ao18 y203.length co18 : Value).ownBlock)))); (case aS => exact (below_size bw)); (case aL => have := LMc4.out; omega); intro v207 w17 ho hb hg hat; rw [← Ny206.out] at ho; have n0_ := Aside0.mk (blk_grown (g := gb200) (o := .cells #[.int .i64 a0_0, .int .i64 a0_1, .int .i64 a0_2, .int .i64 a0_3, .string a0_4] 25 (0, 0)) (bk BK200.out) hg (by simp [Value.ownBlock])); have n1_ := Aside0.mk (blk_grown (g := gb202) (o := .cells #[.int .i64 a0_0, .int .i64 a0_1] 23 (0, 0)) (bk BK202.out) hg (by simp [Value.ownBlock])); have n2_ := Aside0.mk (Kd.R_after (Kd.R_apart_nil (by (with_reducible repeat (first | apply Kd.R_alloc | apply Kd.R_drewN | apply Kd.R_drew)); exact HO205.out)) hg hat); have n3_ := Aside0.mk (hb); have n4_ := Aside0.mk (ho); clear BK200; clear BK202; clear HO205; clear HB; have BK200 := n0_; have BK202 := n1_; have HO205 := n2_; have HB := n3_; have HO208 := n4_; clear n0_ n1_ n2_ n3_ n4_; clear ho hb hg hat))
     first | refine wp_loop_enter (loopAt_once fun _ _ => ?_) | refine loopAt_once fun _ _ => ?_ | (go_step; refine loopAt_once fun _ _ => ?_)
     go_wp2_with (first | ((with_reducible refine gate_dst (N := 6) rfl ?_); refine box_event ?hg (N := 6) ?hd (cs := #[.int .i64 0, .int .i64 0]) (t := 23) ?hr ?_; (case hd => rfl); (case hg => rfl); (case hr => first | (go_simp; done) | (go_simp; rfl)); intro gb209 hg w19 hbox hb; have n0_ := Aside0.mk (Kd.R_below (by (with_reducible repeat (first | apply Kd.R_alloc | apply Kd.R_drewN | apply Kd.R_drew)); exact HO205.out) hb); have n1_ := Aside0.mk (Kd.R_below (by (with_reducible repeat (first | apply Kd.R_alloc | apply Kd.R_drewN | apply Kd.R_drew)); exact HO208.out) hb); have n2_ := Aside0.mk (nb BK200.out hb); have n3_ := Aside0.mk (nb BK202.out hb); have n4_ := Aside0.mk (below_step bw hb); have n5_ := Aside0.mk (hbox); have n6_ := Aside0.mk ((g1 hg bw : w.heap.size ≤ gb209)); have n7_ := Aside0.mk ((g1 hg bw : w.heap.size ≤ gb209)); have n8_ := Aside0.mk ((n1 hg BK200.out : gb200 ≠ gb209)); have n9_ := Aside0.mk ((n2 hg BK200.out : gb209 ≠ gb200)); have n10_ := Aside0.mk ((n1 hg BK202.out : gb202 ≠ gb209)); have n11_ := Aside0.mk ((n2 hg BK202.out : gb209 ≠ gb202)); clear HO205; clear HO208; clear BK200; clear BK202; clear HB; have HO205 := n0_; have HO208 := n1_; have BK200 := n2_; have BK202 := n3_; have HB := n4_; have BK209 := n5_; have GW209 := n6_; have GE209 := n7_; have NB200_209 := n8_; have NB209_200 := n9_; have NB202_209 := n10_; have NB209_202 := n11_; clear n0_ n1_ n2_ n3_ n4_ n5_ n6_ n7_ n8_ n9_ n10_ n11_; clear hb hbox hg; have hnb20 := NB209_200.out; have hnc20 := NB200_209.out; have hnb21 := NB209_202.out; have hnc21 := NB202_209.out; have hcz22_0 := bc2_0 BK209.out; have hcz22_1 := bc2_1 BK209.out; have hfz22_0 := blk_frozen BK209.out 0; have hfz22_1 := blk_frozen BK209.out 1) | ((with_reducible refine gate_dst (N := 27) rfl ?_); refine Kd.R_lit k51 _ 51 ?hg (N := 27) ?hd (xs := ([(⟨3, IntKind.u64.wrap (a0_2), (⟨#[]⟩ : ByteArray)⟩ : S51), (⟨1, IntKind.u64.wrap (a0_3), (⟨#[]⟩ : ByteArray)⟩ : S51)] : List (S51))) (inner := [.int .i64 3, .int .u64 (IntKind.u64.wrap (a0_2)), .string (⟨#[]⟩ : ByteArray), .int .i64 1, .int .u64 (IntKind.u64.wrap (a0_3)), .string (⟨#[]⟩ : ByteArray)]) (ok := fun _ => True) (okp := fun _ => True) ?hr ?hp (fun _ hk => hk) trivial (Below.refl _ _) (Nat.le_refl _) (by simp) ?_; (case hd => rfl); (case hg => rfl); (case hr => first | (go_simp; done) | (go_simp; rfl)); (case hp => exact (Reps.c3 (show Kd.M k51 _ _ _ (⟨3, IntKind.u64.wrap (a0_2), (⟨#[]⟩ : ByteArray)⟩ : S51) [.int .i64 3, .int .u64 (IntKind.u64.wrap (a0_2)), .string (⟨#[]⟩ : ByteArray)] from (k51_mkM _ _ _ (⟨3, IntKind.u64.wrap (a0_2), (⟨#[]⟩ : ByteArray)⟩ : S51) )) (Reps.c3 (show Kd.M k51 _ _ _ (⟨1, IntKind.u64.wrap (a0_3), (⟨#[]⟩ : ByteArray)⟩ : S51) [.int .i64 1, .int .u64 (IntKind.u64.wrap (a0_3)), .string (⟨#[]⟩ : ByteArray)] from (k51_mkM _ _ _ (⟨1, IntKind.u64.wrap (a0_3), (⟨#[]⟩ : ByteArray)⟩ : S51) )) (Reps.none _ _)))); intro v211 w23 ho24 hb hg_ hnew_; clear hg_ hnew_; (first | rw [← Ny210.out] at ho24 | (simp only [Int.reduceToNat] at ho24; rw [← Ny210.out] at ho24)); have n0_ := Aside0.mk (Kd.R_elder' (by (with_reducible repeat (first | apply Kd.R_alloc | apply Kd.R_drewN | apply Kd.R_drew)); exact (Kd.R_mono (Kd.R_far (p := ⟨gb209, 1, none⟩) (Kd.R_far (p := ⟨gb209, 0, none⟩) (Kd.R_types HO205.out BK209.out (by decide)) (fun _ hk => hk.2) (.int .i64 a0_2)) (fun _ hk => hk.2) (.int .i64 a0_3)) (fun _ h_ => h_.1))) (Kd.R_base ho24) hb); have n1_ := Aside0.mk (Kd.R_elder' (by (with_reducible repeat (first | apply Kd.R_alloc | apply Kd.R_drewN | apply Kd.R_drew)); exact (Kd.R_mono (Kd.R_far (p := ⟨gb209, 1, none⟩) (Kd.R_far (p := ⟨gb209, 0, none⟩) (Kd.R_types HO208.out BK209.out (by decide)) (fun _ hk => hk.2) (.int .i64 a0_2)) (fun _ hk => hk.2) (.int .i64 a0_3)) (fun _ h_ => h_.1))) (Kd.R_base ho24) hb); have n2_ := Aside0.mk (Kd.R_lower (Kd.R_new' (Kd.R_new' ho24 (Kd.R_lt (by (with_reducible repeat (first | apply Kd.R_alloc | apply Kd.R_drewN | apply Kd.R_drew)); exact (Kd.R_mono (Kd.R_far (p := ⟨gb209, 1, none⟩) (Kd.R_far (p := ⟨gb209, 0, none⟩) (Kd.R_types HO205.out BK209.out (by decide)) (fun _ hk => hk.2) (.int .i64 a0_2)) (fun _ hk => hk.2) (.int .i64 a0_3)) (fun _ h_ => h_.1))))) (Kd.R_lt (by (with_reducible repeat (first | apply Kd.R_alloc | apply Kd.R_drewN | apply Kd.R_drew)); exact (Kd.R_mono (Kd.R_far (p := ⟨gb209, 1, none⟩) (Kd.R_far (p := ⟨gb209, 0, none⟩) (Kd.R_types HO208.out BK209.out (by decide)) (fun _ hk => hk.2) (.int .i64 a0_2)) (fun _ hk => hk.2) (.int .i64 a0_3)) (fun _ h_ => h_.1))))) (below_size bw)); have n3_ := Aside0.mk (blk_below (g := gb200) (o := .cells #[.int .i64 a0_0, .int .i64 a0_1, .int .i64 a0_2, .int .i64 a0_3, .string a0_4] 25 (0, 0)) (by (with_reducible repeat (first | refine blk_drewN ?_ _ | refine blk_drew ?_ | refine blk_alloc ?_ _ | refine blk_far ?_ NB200_209.out _)); exact BK200.out) hb); have n4_ := Aside0.mk (blk_below (g := gb202) (o := .cells #[.int .i64 a0_0, .int .i64 a0_1] 23 (0, 0)) (by (with_reducible repeat (first | refine blk_drewN ?_ _ | refine blk_drew ?_ | refine blk_alloc ?_ _ | refine blk_far ?_ NB202_209.out _)); exact BK202.out) hb); have n5_ := Aside0.mk (blk_below (g := gb209) (o := .cells #[.int .i64 a0_2, .int .i64 a0_3] 23 (0, 0)) (by (with_reducible repeat (first | refine blk_drewN ?_ _ | refine blk_drew ?_ | refine blk_alloc ?_ _)); refine blk_put (cs := #[.int .i64 a0_2, .int .i64 0]) ?_ 1 _ rfl; (with_reducible repeat (first | refine blk_drewN ?_ _ | refine blk_drew ?_ | refine blk_alloc ?_ _)); refine blk_put (cs := #[.int .i64 0, .int .i64 0]) ?_ 0 _ rfl; (with_reducible repeat (first | refine blk_drewN ?_ _ | refine blk_drew ?_ | refine blk_alloc ?_ _)); exact BK209.out) hb); have n6_ := Aside0.mk (below_step bw hb); clear HO205; clear HO208; clear BK200; clear BK202; clear BK209; clear HB; have HO205 := n0_; have HO208 := n1_; have HO212 := n2_; have BK200 := n3_; have BK202 := n4_; have BK209 := n5_; have HB := n6_; clear n0_ n1_ n2_ n3_ n4_ n5_ n6_; clear hb ho24; obtain ⟨Ao26, co26, eo26⟩ := Kd.R_slice HO212.out; subst eo26) | ((with_reducible refine gate_builtin (b := .append) (xs := #[.tmp 18, .tmp 27]) rfl ?_); at_builtin; refine Kd.R_append_rows k51 (w0 := w) w.heap.size rfl (.tmp 18) (.tmp 27) 47 51 (.agg #[(.int .i64 0), (.int .u64 0), (.string ⟨#[]⟩)]) 32 rfl Tryd.underlying47 info51 rfl (by decide) (by omega) v207 y206 y210 _ _ _ (fun k_ => some k_ ≠ (.slice Ao18 y203.length co18 : Value).ownBlock ∧ some k_ ≠ (.slice Ao26 y210.length co26 : Value).ownBlock) (fun _ => False) rfl rfl ?aO ?aR (fun _ _ h => h) (fun _ h => h.elim) ?aF ?aB ?aS ?aL ?_; (case aR => repeat (first | exact (Kd.R_reads' HO212.out).2.2 | (with_reducible refine Kd.C_alloc ?_ _) | (with_reducible refine Kd.C_drewN ?_ _) | (with_reducible refine Kd.C_drew ?_))); (case aB => exact bw); (case aF => exact (fun k_ hk => ⟨Kd.fresh' (Kd.R_lt (by (with_reducible repeat (first | apply Kd.R_alloc | apply Kd.R_drewN | apply Kd.R_drew)); exact HO205.out)) k_ hk, Kd.fresh' (Kd.R_lt (by (with_reducible repeat (first | apply Kd.R_alloc | apply Kd.R_drewN | apply Kd.R_drew)); exact HO212.out)) k_ hk⟩)); (case aO => exact (by (with_reducible repeat (first | apply Kd.R_alloc | apply Kd.R_drewN | apply Kd.R_drew)); exact HO208.out)); (case aS => exact (below_size bw)); (case aL => have := LMc5.out; omega); intro v214 w25 ho hb hg hat; rw [← Ny213.out] at ho; have n0_ := Aside0.mk (blk_grown (g := gb200) (o := .cells #[.int .i64 a0_0, .int .i64 a0_1, .int .i64 a0_2, .int .i64 a0_3, .string a0_4] 25 (0, 0)) (bk BK200.out) hg (Kd.R_ne HO208.out BK200.out (by decide))); have n1_ := Aside0.mk (blk_grown (g := gb202) (o := .cells #[.int .i64 a0_0, .int .i64 a0_1] 23 (0, 0)) (bk BK202.out) hg (Kd.R_ne HO208.out BK202.out (by decide))); have n2_ := Aside0.mk (Kd.R_after (ok := (fun k_ => some k_ ≠ (.slice Ao26 y210.length co26 : Value).ownBlock)) (by (with_reducible repeat (first | apply Kd.R_alloc | apply Kd.R_drewN | apply Kd.R_drew)); exact Kd.R_mono HO205.out (fun _ hk => ⟨hk.2, hk.1.2⟩)) hg hat); have n3_ := Aside0.mk (blk_grown (g := gb209) (o := .cells #[.int .i64 a0_2, .int .i64 a0_3] 23 (0, 0)) (bk BK209.out) hg (Kd.R_ne HO208.out BK209.out (by decide))); have n4_ := Aside0.mk (Kd.R_after (ok := (fun k_ => some k_ ≠ (.slice Ao18 y203.length co18 : Value).ownBlock)) (by (with_reducible repeat (first | apply Kd.R_alloc | apply Kd.R_drewN | apply Kd.R_drew)); exact Kd.R_mono HO212.out (fun _ hk => ⟨hk.1.2, hk.2⟩)) hg hat); have n5_ := Aside0.mk (hb); have n6_ := Aside0.mk (ho); clear BK200; clear BK202; clear HO205; clear BK209; clear HO212; clear HB; clear HO208; have BK200 := n0_; have BK202 := n1_; have HO205 := n2_; have BK209 := n3_; have HO212 := n4_; have HB := n5_; have HO215 := n6_; clear n0_ n1_ n2_ n3_ n4_ n5_ n6_; clear ho hb hg hat))
     first | refine wp_loop_enter (loopAt_once fun _ _ => ?_) | refine loopAt_once fun _ _ => ?_ | (go_step; refine loopAt_once fun _ _ => ?_)
     have hcz27_0 := bc5_0 BK200.out
     have hcz27_1 := bc5_1 BK200.out
     have hcz27_2 := bc5_2 BK200.out
     have hcz27_3 := bc5_3 BK200.out
     have hcz27_4 := bc5_4 BK200.out
     have hfz27_0 := blk_frozen BK200.out 0
     have hfz27_1 := blk_frozen BK200.out 1
     have hfz27_2 := blk_frozen BK200.out 2
     have hfz27_3 := blk_frozen BK200.out 3
     have hfz27_4 := blk_frozen BK200.out 4
     go_wp2_with (first | ((with_reducible refine gate_builtin (b := .append) (xs := #[.tmp 30, .tmp 34]) rfl ?_); at_builtin; refine Kd.R_append k51 (w0 := w) w.heap.size rfl (.tmp 30) (.tmp 34) 47 51 (.agg #[(.int .i64 0), (.int .u64 0), (.string ⟨#[]⟩)]) 32 rfl Tryd.underlying47 info51 rfl (by decide) (by omega) v214 y213 (⟨4, 0, a0_4⟩ : S51) [.int .i64 4, .int .u64 0, .string a0_4] (fun k_ => some k_ ≠ (.slice Ao18 y203.length co18 : Value).ownBlock ∧ some k_ ≠ (.slice Ao26 y210.length co26 : Value).ownBlock) (fun _ => False) rfl rfl ?aP (fun _ hk => hk.elim) ?aF ?aO ?aB ?aS ?aL ?_; (case aP => exact k51_mkM _ _ _ (⟨4, 0, a0_4⟩ : S51)); (case aB => exact bw); (case aF => exact (fun k_ hk => ⟨Kd.fresh' (Kd.R_lt (by (with_reducible repeat (first | apply Kd.R_alloc | apply Kd.R_drewN | apply Kd.R_drew)); exact HO205.out)) k_ hk, Kd.fresh' (Kd.R_lt (by (with_reducible repeat (first | apply Kd.R_alloc | apply Kd.R_drewN | apply Kd.R_drew)); exact HO212.out)) k_ hk⟩)); (case aO => exact (by (with_reducible repeat (first | apply Kd.R_alloc | apply Kd.R_drewN | apply Kd.R_drew)); exact HO215.out)); (case aS => exact (below_size bw)); (case aL => have := LMc6.out; omega); intro v217 w28 ho hb hg hat; rw [← Ny216.out] at ho; have n0_ := Aside0.mk (blk_grown (g := gb200) (o := .cells #[.int .i64 a0_0, .int .i64 a0_1, .int .i64 a0_2, .int .i64 a0_3, .string a0_4] 25 (0, 0)) (bk BK200.out) hg (Kd.R_ne HO215.out BK200.out (by decide))); have n1_ := Aside0.mk (blk_grown (g := gb202) (o := .cells #[.int .i64 a0_0, .int .i64 a0_1] 23 (0, 0)) (bk BK202.out) hg (Kd.R_ne HO215.out BK202.out (by decide))); have n2_ := Aside0.mk (Kd.R_after (ok := (fun k_ => some k_ ≠ (.slice Ao26 y210.length co26 : Value).ownBlock)) (by (with_reducible repeat (first | apply Kd.R_alloc | apply Kd.R_drewN | apply Kd.R_drew)); exact HO205.out) hg hat); have n3_ := Aside0.mk (blk_grown (g := gb209) (o := .cells #[.int .i64 a0_2, .int .i64 a0_3] 23 (0, 0)) (bk BK209.out) hg (Kd.R_ne HO215.out BK209.out (by decide))); have n4_ := Aside0.mk (Kd.R_after (ok := (fun k_ => some k_ ≠ (.slice Ao18 y203.length co18 : Value).ownBlock)) (by (with_reducible repeat (first | apply Kd.R_alloc | apply Kd.R_drewN | apply Kd.R_drew)); exact HO212.out) hg hat); have n5_ := Aside0.mk (hb); have n6_ := Aside0.mk (ho); clear BK200; clear BK202; clear HO205; clear BK209; clear HO212; clear HB; clear HO215; have BK200 := n0_; have BK202 := n1_; have HO205 := n2_; have BK209 := n3_; have HO212 := n4_; have HB := n5_; have HO218 := n6_; clear n0_ n1_ n2_ n3_ n4_ n5_ n6_; clear ho hb hg hat; obtain ⟨Ao29, co29, eo29⟩ := Kd.R_slice HO218.out; subst eo29) | ((with_reducible refine gate_callee (f := 16) rfl ?_); refine goesL_ (some 36) rfl rfl Tryd.func16 (by kernel_rfl) rfl #[.slice Ao29 y216.length co29] rfl am ?_; (with_reducible refine (codec_Encode.calls k _ _ y216 t219 t220 _ ?side1 ?side2 tbk A7.out).mono ?_); (case side1 => repeat (first | exact (Kd.R_reads' HO218.out).2.2 | (with_reducible refine Kd.C_alloc ?_ _) | (with_reducible refine Kd.C_drewN ?_ _) | (with_reducible refine Kd.C_drew ?_))); (case side2 => exact (Kd.R_reads' HO218.out).2.1); rintro e w30 ⟨rfl, hb⟩; refine ⟨_, rfl, ?_⟩; have n0_ := Aside0.mk (Kd.R_below (by (with_reducible repeat (first | apply Kd.R_alloc | apply Kd.R_drewN | apply Kd.R_drew)); exact HO205.out) hb); have n1_ := Aside0.mk (Kd.R_below (by (with_reducible repeat (first | apply Kd.R_alloc | apply Kd.R_drewN | apply Kd.R_drew)); exact HO212.out) hb); have n2_ := Aside0.mk (Kd.R_below (by (with_reducible repeat (first | apply Kd.R_alloc | apply Kd.R_drewN | apply Kd.R_drew)); exact HO218.out) hb); have n3_ := Aside0.mk (nb BK200.out hb); have n4_ := Aside0.mk (nb BK202.out hb); have n5_ := Aside0.mk (nb BK209.out hb); have n6_ := Aside0.mk (below_step bw hb); clear HO205; clear HO212; clear HO218; clear BK200; clear BK202; clear BK209; clear HB; have HO205 := n0_; have HO212 := n1_; have HO218 := n2_; have BK200 := n3_; have BK202 := n4_; have BK209 := n5_; have HB := n6_; clear n0_ n1_ n2_ n3_ n4_ n5_ n6_; (try clear hb); (try clear hb2); (try clear hk); (try clear hi)))
     go_ret2
     exact ⟨er, bw⟩
    ·rw [if_neg c6] at H
     exact absurd H (by simp)
   ·rw [if_neg c5] at H
    exact absurd H (by simp)
  ·rw [if_neg c4] at H
   exact absurd H (by simp)
 ·replace c3 := Bool.eq_false_iff.mpr c3
  subst c3
  have H1 : (some ((⟨#[]⟩ : ByteArray), 1)) = some (r1, r2) := by rw [if_neg (show ¬ (false = true) by decide)] at H; exact H
  clear H
  have H := H1
  clear H1
  simp only [Option.some.injEq, Prod.mk.injEq] at H
  obtain ⟨rfl, rfl⟩ := H
  go_enter Tryd.func7, Tryd.ntmps7
  go_wp2_with (first | ((with_reducible refine gate_dst (N := 1) rfl ?_); refine box_event ?hg (N := 1) ?hd (cs := #[.int .i64 a0_0, .int .i64 a0_1, .int .i64 a0_2, .int .i64 a0_3, .string a0_4]) (t := 25) ?hr ?_; (case hd => rfl); (case hg => rfl); (case hr => first | (go_simp; done) | (go_simp; rfl)); intro gb200 hg w31 hbox hb; have n0_ := Aside0.mk (below_step bw hb); have n1_ := Aside0.mk (hbox); have n2_ := Aside0.mk ((g1 hg bw : w.heap.size ≤ gb200)); have n3_ := Aside0.mk ((g1 hg bw : w.heap.size ≤ gb200)); clear HB; have HB := n0_; have BK200 := n1_; have GW200 := n2_; have GE200 := n3_; clear n0_ n1_ n2_ n3_; clear hb hbox hg; have hcz32_0 := bc5_0 BK200.out; have hcz32_1 := bc5_1 BK200.out; have hcz32_2 := bc5_2 BK200.out; have hcz32_3 := bc5_3 BK200.out; have hcz32_4 := bc5_4 BK200.out; have hfz32_0 := blk_frozen BK200.out 0; have hfz32_1 := blk_frozen BK200.out 1; have hfz32_2 := blk_frozen BK200.out 2; have hfz32_3 := blk_frozen BK200.out 3; have hfz32_4 := blk_frozen BK200.out 4) | ((with_reducible refine gate_callee (f := 15) rfl ?_); refine goesL_ (some 8) rfl rfl Tryd.func15 (by kernel_rfl) rfl #[.agg #[.int .i64 a0_0, .int .i64 a0_1, .int .i64 a0_2, .int .i64 a0_3, .string a0_4]] rfl am ?_; (with_reducible refine (acceptor_right.calls a0_0 a0_1 a0_2 a0_3 a0_4 false _ A2.out).mono ?_); rintro e w33 ⟨rfl, hb⟩; refine ⟨_, rfl, ?_⟩; have n0_ := Aside0.mk (nb BK200.out hb); have n1_ := Aside0.mk (below_step bw hb); clear BK200; clear HB; have BK200 := n0_; have HB := n1_; clear n0_ n1_; (try clear hb); (try clear hb2); (try clear hk); (try clear hi)))
  go_ret2
  exact ⟨er, bw⟩

end Go.Proofs.YtocgbfcjmgpleaaDoor.P
