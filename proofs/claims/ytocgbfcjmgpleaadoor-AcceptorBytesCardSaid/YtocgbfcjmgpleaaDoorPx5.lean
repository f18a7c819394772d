-- Printed by this session's program wip/xp.py (a turned copy of the kit's printer): functions, their contracts.
import Derived.Test.YtocgbfcjmgpleaaDoorPx0
import Derived.Test.YtocgbfcjmgpleaaDoorPx3
import Derived.Test.YtocgbfcjmgpleaaDoorPx4
namespace Go.Proofs.YtocgbfcjmgpleaaDoor.P
open Go.RowKit Go.Proofs.YtocgbfcjmgpleaaDoorW.PrintWords Go.Proofs.YtocgbfcjmgpleaaDoorW.PrintLast Go.Proofs.YtocgbfcjmgpleaaDoorW.PrintMore
attribute [local go_sem] max2_int min2_int max_two min_two max_three min_three max_four min_four   -- for this text's walks alone
set_option linter.unusedVariables false
set_option linter.unusedSimpArgs false

attribute [local go_sem high] eqA59
/-! ### acceptor_Less: function 13 -/
def acceptor_Less.f (a0_0 : Int) (a0_1 : Int) (a1_0 : Int) (a1_1 : Int) : Option (Bool) := (acceptor_pair.f a0_0 a0_1).bind fun bt105 => ((acceptor_pair.f a1_0 a1_1).bind fun bt107 => (if (!(bt105.1 == bt107.1) || (!(bt105.2 == bt107.2))) = true then (if bt105.1 < bt107.1 then (some true) else (if bt105.1 = bt107.1 then (some (decide (bt105.2 < bt107.2))) else (some false))) else (some false)))
def acceptor_Less.T1 : Bool × List (List Nat × List Nat) := (true, [([], []), ([0], [0]), ([], []), ([2, 1], [2]), ([], []), ([], []), ([4, 1, 3, 0, 1, 4, 5], [1, 4]), ([5, 3, 6, 0, 1, 2, 3, 4, 5, 6], [3, 5])])
def acceptor_Less.B1 : List Nat := [0, 1, 0, 7, 0, 0, 63, 127]
theorem acceptor_Less.tab1 : rtab .any (opsOf Tryd.f13 1) = acceptor_Less.T1 := by kernel_rfl
theorem acceptor_Less.bits1 : waitsOk acceptor_Less.T1.2 acceptor_Less.B1 = true := by kernel_rfl
set_option maxHeartbeats 8000000 in
set_option maxRecDepth 100000 in
theorem acceptor_Less.calls (a0_0 : Int) (a0_1 : Int) (a1_0 : Int) (a1_1 : Int) (r : Bool) (w : World) (h : acceptor_Less.f a0_0 a0_1 a1_0 a1_1 = some r) :
  Calls Tryd.prog 13 #[.agg #[.int .i64 a0_0, .int .i64 a0_1], .agg #[.int .i64 a1_0, .int .i64 a1_1]] w fun e w' => e = .returned (.bool r) ∧ Below w.heap.size w w' := by
 have hu23 := Tryd.underlying23
 have hu59 := Tryd.underlying59
 have HB := Aside0.mk (Below.refl w.heap.size w)
 have H : ((acceptor_pair.f a0_0 a0_1).bind fun bt105 => ((acceptor_pair.f a1_0 a1_1).bind fun bt107 => (if (!(bt105.1 == bt107.1) || (!(bt105.2 == bt107.2))) = true then (if bt105.1 < bt107.1 then (some true) else (if bt105.1 = bt107.1 then (some (decide (bt105.2 < bt107.2))) else (some false))) else (some false)))) = some r := h
 clear h
 replace H := Option.bind_eq_some_iff.mp H
 obtain ⟨⟨t105, t106⟩, A30, H⟩ := H
 replace H : ((acceptor_pair.f a1_0 a1_1).bind fun bt107 => (if (!(t105 == bt107.1) || (!(t106 == bt107.2))) = true then (if t105 < bt107.1 then (some true) else (if t105 = bt107.1 then (some (decide (t106 < bt107.2))) else (some false))) else (some false))) = some r := H
 have A3 := Aside0.mk A30
 clear A30
 replace H := Option.bind_eq_some_iff.mp H
 obtain ⟨⟨t107, t108⟩, A40, H⟩ := H
 replace H : (if (!(t105 == t107) || (!(t106 == t108))) = true then (if t105 < t107 then (some true) else (if t105 = t107 then (some (decide (t106 < t108))) else (some false))) else (some false)) = some r := H
 have A4 := Aside0.mk A40
 clear A40
 by_cases c5 : (!(t105 == t107) || (!(t106 == t108))) = true
 ·rw [if_pos c5] at H
  have c5b0 : (!(t105 == t107) || (!(t106 == t108))) = true := c5
  (try (have c5b1 : (t105 == t107 && (t106 == t108)) = false := by have e_ : (t105 == t107 && (t106 == t108)) = (!(!(t105 == t107) || (!(t106 == t108)))) := (by simp only [Bool.not_or, Bool.not_and, Bool.not_not]); rw [e_]; first | (simp only [c5, Bool.not_true]; done) | (simp only [Bool.eq_false_iff.mpr c5, Bool.not_false]; done)))
  clear c5
  by_cases c6 : t105 < t107
  ·rw [if_pos c6] at H
   have c6b0 : decide (t105 < t107) = true := decide_eq_true c6
   clear c6
   obtain rfl := Option.some.inj H
   go_enter Tryd.func13, Tryd.ntmps13
   try go_wp2_with (first | ((with_reducible refine gate_dst (N := 2) rfl ?_); refine box_event ?hg (N := 2) ?hd (cs := #[.int .i64 a0_0, .int .i64 a0_1]) (t := 23) ?hr ?_; (case hd => rfl); (case hg => rfl); (case hr => first | (go_simp; done) | (go_simp; rfl)); intro gb103 hg w7 hbox hb; have n0_ := Aside0.mk (below_step bw hb); have n1_ := Aside0.mk (hbox); have n2_ := Aside0.mk ((g1 hg bw : w.heap.size ≤ gb103)); have n3_ := Aside0.mk ((g1 hg bw : w.heap.size ≤ gb103)); clear HB; have HB := n0_; have BK103 := n1_; have GW103 := n2_; have GE103 := n3_; clear n0_ n1_ n2_ n3_; clear hb hbox hg) | ((with_reducible refine gate_dst (N := 3) rfl ?_); refine box_event ?hg (N := 3) ?hd (cs := #[.int .i64 a1_0, .int .i64 a1_1]) (t := 23) ?hr ?_; (case hd => rfl); (case hg => rfl); (case hr => first | (go_simp; done) | (go_simp; rfl)); intro gb104 hg w8 hbox hb; have n0_ := Aside0.mk (nb BK103.out hb); have n1_ := Aside0.mk (below_step bw hb); have n2_ := Aside0.mk (hbox); have n3_ := Aside0.mk ((g1 hg bw : w.heap.size ≤ gb104)); have n4_ := Aside0.mk ((g1 hg bw : w.heap.size ≤ gb104)); have n5_ := Aside0.mk ((n1 hg BK103.out : gb103 ≠ gb104)); have n6_ := Aside0.mk ((n2 hg BK103.out : gb104 ≠ gb103)); clear BK103; clear HB; have BK103 := n0_; have HB := n1_; have BK104 := n2_; have GW104 := n3_; have GE104 := n4_; have NB103_104 := n5_; have NB104_103 := n6_; clear n0_ n1_ n2_ n3_ n4_ n5_ n6_; clear hb hbox hg))
   have n0_ := Aside0.mk (blk_drew BK103.out)
   have n1_ := Aside0.mk (blk_drew BK104.out)
   have n2_ := Aside0.mk (below_drew1 HB.out)
   clear BK103
   clear BK104
   clear HB
   have BK103 := n0_
   have BK104 := n1_
   have HB := n2_
   clear n0_ n1_ n2_
   refine start_ (n := 8) (S := fun w' => True) (ds := []) #[false, false, false, false, false, false, false, false] (by kernel_rfl) rfl rfl trivial (fun hHeld => ?_); refine with_tabW acceptor_Less.tab1 acceptor_Less.bits1 (fun HT_ HW_ => ?_)
   generalize w8.drew = w9 at BK103 BK104 HB hHeld ⊢
   refine inv_at [0, 1, 2, 3, 4, 5, 6, 7] (fun a0_ b a w' => ∃ (gb109 : Nat) (gb110 : Nat) (m4_ : Value) (m5_ : Value), a = putSel a0_ b [(0, 7, .agg #[.int .i64 a0_0, .int .i64 a0_1]), (1, 8, .agg #[.int .i64 t105, .int .i64 t106]), (2, 9, .agg #[.int .i64 a1_0, .int .i64 a1_1]), (3, 10, .agg #[.int .i64 t107, .int .i64 t108]), (4, 5, m4_), (5, 6, m5_)] ∧ (w'.heap[gb103]? = some (.cells #[.int .i64 a0_0, .int .i64 a0_1] 23 (0, 0))) ∧ (w'.heap[gb104]? = some (.cells #[.int .i64 a1_0, .int .i64 a1_1] 23 (0, 0))) ∧ (Below w.heap.size w w') ∧ (b 4 = true → b 5 = true → gb110 ≠ gb109) ∧ (b 4 = true → b 5 = true → gb109 ≠ gb110) ∧ (b 4 = true → b 6 = false → w'.heap[gb109]? = some (.cells #[.int .i64 0, .int .i64 0] 59 (0, 0))) ∧ (b 4 = true → w.heap.size ≤ gb109) ∧ (b 4 = true → w.heap.size ≤ gb109) ∧ (b 4 = true → gb103 ≠ gb109) ∧ (b 4 = true → gb109 ≠ gb103) ∧ (b 4 = true → gb104 ≠ gb109) ∧ (b 4 = true → gb109 ≠ gb104) ∧ (b 5 = true → b 7 = false → w'.heap[gb110]? = some (.cells #[.int .i64 0, .int .i64 0] 59 (0, 0))) ∧ (b 5 = true → w.heap.size ≤ gb110) ∧ (b 5 = true → w.heap.size ≤ gb110) ∧ (b 5 = true → gb103 ≠ gb110) ∧ (b 5 = true → gb110 ≠ gb103) ∧ (b 5 = true → gb104 ≠ gb110) ∧ (b 5 = true → gb110 ≠ gb104) ∧ (b 6 = true → w'.heap[gb109]? = some (.cells #[.int .i64 t105, .int .i64 t106] 59 (0, 0))) ∧ (b 7 = true → w'.heap[gb110]? = some (.cells #[.int .i64 t107, .int .i64 t108] 59 (0, 0))) ∧ (b 4 = true → (m4_ : Value) = .pointer (some ⟨gb109, 0, none⟩)) ∧ (b 5 = true → (m5_ : Value) = .pointer (some ⟨gb110, 0, none⟩))) HT_.out HW_.out (by kernel_rfl) (by kernel_rfl) ?_ ?_ ?_
   ·exact ⟨0, 0, .bool false, .bool false, by simp only [putSel, Bool.false_eq_true, if_false], BK103.out, BK104.out, HB.out, fun h_ => absurd h_ (by decide), fun h_ => absurd h_ (by decide), fun h_ => absurd h_ (by decide), fun h_ => absurd h_ (by decide), fun h_ => absurd h_ (by decide), fun h_ => absurd h_ (by decide), fun h_ => absurd h_ (by decide), fun h_ => absurd h_ (by decide), fun h_ => absurd h_ (by decide), fun h_ => absurd h_ (by decide), fun h_ => absurd h_ (by decide), fun h_ => absurd h_ (by decide), fun h_ => absurd h_ (by decide), fun h_ => absurd h_ (by decide), fun h_ => absurd h_ (by decide), fun h_ => absurd h_ (by decide), fun h_ => absurd h_ (by decide), fun h_ => absurd h_ (by decide), fun h_ => absurd h_ (by decide), fun h_ => absurd h_ (by decide)⟩
   ·skip
    clear BK103 BK104 HB
    refine steps_cons ?_ ?_
    ·rintro b a w' ⟨gb109, gb110, m4_, m5_, ha, Q_BK103, Q_BK104, Q_HB, Q_NB110_109, Q_NB109_110, Q_BK109, Q_GW109, Q_GE109, Q_NB103_109, Q_NB109_103, Q_NB104_109, Q_NB109_104, Q_BK110, Q_GW110, Q_GE110, Q_NB103_110, Q_NB110_103, Q_NB104_110, Q_NB110_104, Q_BK109_e6, Q_BK110_e7, Q_X4_, Q_X5_⟩ hb_ hon hoff
     refine ⟨_, rfl, fun K hK => ?_⟩
     have e2 : a.tmps[2]? = some (.pointer (some ⟨gb103, 0, none⟩)) := by rw [ha]; exact (putSel_off rfl).trans rfl
     replace ha := Aside0.mk ha
     have BK103 := Aside0.mk Q_BK103
     have BK104 := Aside0.mk Q_BK104
     have HB := Aside0.mk Q_HB
     have hc0_ : w'.cell? ⟨gb103, 0, none⟩ = some (.int .i64 a0_0) := (blk_cell BK103.out 0).trans rfl
     have hc1_ : w'.cell? ⟨gb103, 1, none⟩ = some (.int .i64 a0_1) := (blk_cell BK103.out 1).trans rfl
     refine value_ (w1 := w') (v := .agg #[.int .i64 a0_0, .int .i64 a0_1]) (by rfl) rfl ?_ ?_
     ·go_simp
      (try simp only [i64_w])
      try rfl
     refine hK.out _ _ ⟨gb109, gb110, m4_, m5_, (by rw [ha.out]; exact putSel_upk 0 hb_ rfl rfl rfl), Q_BK103, Q_BK104, Q_HB, Q_NB110_109, Q_NB109_110, Q_BK109, Q_GW109, Q_GE109, Q_NB103_109, Q_NB109_103, Q_NB104_109, Q_NB109_104, Q_BK110, Q_GW110, Q_GE110, Q_NB103_110, Q_NB110_103, Q_NB104_110, Q_NB110_104, fun h0_ => absurd ((hoff 6 (by kernel_rfl)).symm.trans h0_) (by decide), fun h0_ => absurd ((hoff 7 (by kernel_rfl)).symm.trans h0_) (by decide), Q_X4_, Q_X5_⟩
    refine steps_cons ?_ ?_
    ·rintro b a w' ⟨gb109, gb110, m4_, m5_, ha, Q_BK103, Q_BK104, Q_HB, Q_NB110_109, Q_NB109_110, Q_BK109, Q_GW109, Q_GE109, Q_NB103_109, Q_NB109_103, Q_NB104_109, Q_NB109_104, Q_BK110, Q_GW110, Q_GE110, Q_NB103_110, Q_NB110_103, Q_NB104_110, Q_NB110_104, Q_BK109_e6, Q_BK110_e7, Q_X4_, Q_X5_⟩ hb_ hon hoff
     refine ⟨_, rfl, fun K hK => ?_⟩
     have e7 : a.tmps[7]? = some (.agg #[.int .i64 a0_0, .int .i64 a0_1]) := by rw [ha]; exact putSel_on (e := (0, 7, .agg #[.int .i64 a0_0, .int .i64 a0_1])) 0 rfl rfl (hon 0 (by kernel_rfl)) rfl
     replace ha := Aside0.mk ha
     have BK103 := Aside0.mk Q_BK103
     have BK104 := Aside0.mk Q_BK104
     have HB := Aside0.mk Q_HB
     refine goes_ Tryd.func21 (by kernel_rfl) rfl #[.agg #[.int .i64 a0_0, .int .i64 a0_1]] (by rfl) rfl rfl (by first | (simp only [List.map_toArray, List.map_cons, List.map_nil, Act.eval, Array.getD_eq_getD_getElem?, Option.getD_some, e7]; done) | (simp only [List.map_toArray, List.map_cons, List.map_nil, Act.eval, Array.getD_eq_getD_getElem?, Option.getD_some, e7]; rfl)) ?_
     with_reducible refine (acceptor_pair.calls a0_0 a0_1 t105 t106 _ A3.out).mono ?_
     rintro e w10 ⟨rfl, hb⟩
     refine ⟨_, rfl, ?_⟩
     have n0_ := Aside0.mk (nb BK103.out hb)
     have n1_ := Aside0.mk (nb BK104.out hb)
     have n2_ := Aside0.mk (below_step bw hb)
     have z_BK109 := fun (h0_ : b 4 = true) (h1_ : b 6 = false) => (show w10.heap[gb109]? = some (.cells #[.int .i64 0, .int .i64 0] 59 (0, 0)) from by first | exact (blk_below (g := gb109) (o := .cells #[.int .i64 0, .int .i64 0] 59 (0, 0)) (by (with_reducible repeat (first | refine blk_drewN ?_ _ | refine blk_drew ?_ | refine blk_alloc ?_ _)); exact (Q_BK109 h0_ h1_)) hb))
     have z_BK110 := fun (h0_ : b 5 = true) (h1_ : b 7 = false) => (show w10.heap[gb110]? = some (.cells #[.int .i64 0, .int .i64 0] 59 (0, 0)) from by first | exact (blk_below (g := gb110) (o := .cells #[.int .i64 0, .int .i64 0] 59 (0, 0)) (by (with_reducible repeat (first | refine blk_drewN ?_ _ | refine blk_drew ?_ | refine blk_alloc ?_ _)); exact (Q_BK110 h0_ h1_)) hb))
     clear BK103
     clear BK104
     clear HB
     have BK103 := n0_
     have BK104 := n1_
     have HB := n2_
     clear n0_ n1_ n2_
     (try clear hb)
     (try clear hb2)
     (try clear hk)
     (try clear hi)
     refine hK.out _ _ ⟨gb109, gb110, m4_, m5_, (by rw [ha.out]; exact putSel_upk 1 hb_ rfl rfl rfl), (bk BK103.out), (bk BK104.out), bw, Q_NB110_109, Q_NB109_110, z_BK109, Q_GW109, Q_GE109, Q_NB103_109, Q_NB109_103, Q_NB104_109, Q_NB109_104, z_BK110, Q_GW110, Q_GE110, Q_NB103_110, Q_NB110_103, Q_NB104_110, Q_NB110_104, fun h0_ => absurd ((hoff 6 (by kernel_rfl)).symm.trans h0_) (by decide), fun h0_ => absurd ((hoff 7 (by kernel_rfl)).symm.trans h0_) (by decide), Q_X4_, Q_X5_⟩
    refine steps_cons ?_ ?_
    ·rintro b a w' ⟨gb109, gb110, m4_, m5_, ha, Q_BK103, Q_BK104, Q_HB, Q_NB110_109, Q_NB109_110, Q_BK109, Q_GW109, Q_GE109, Q_NB103_109, Q_NB109_103, Q_NB104_109, Q_NB109_104, Q_BK110, Q_GW110, Q_GE110, Q_NB103_110, Q_NB110_103, Q_NB104_110, Q_NB110_104, Q_BK109_e6, Q_BK110_e7, Q_X4_, Q_X5_⟩ hb_ hon hoff
     refine ⟨_, rfl, fun K hK => ?_⟩
     have e3 : a.tmps[3]? = some (.pointer (some ⟨gb104, 0, none⟩)) := by rw [ha]; exact (putSel_off rfl).trans rfl
     replace ha := Aside0.mk ha
     have BK103 := Aside0.mk Q_BK103
     have BK104 := Aside0.mk Q_BK104
     have HB := Aside0.mk Q_HB
     have hc0_ : w'.cell? ⟨gb104, 0, none⟩ = some (.int .i64 a1_0) := (blk_cell BK104.out 0).trans rfl
     have hc1_ : w'.cell? ⟨gb104, 1, none⟩ = some (.int .i64 a1_1) := (blk_cell BK104.out 1).trans rfl
     refine value_ (w1 := w') (v := .agg #[.int .i64 a1_0, .int .i64 a1_1]) (by rfl) rfl ?_ ?_
     ·go_simp
      (try simp only [i64_w])
      try rfl
     refine hK.out _ _ ⟨gb109, gb110, m4_, m5_, (by rw [ha.out]; exact putSel_upk 2 hb_ rfl rfl rfl), Q_BK103, Q_BK104, Q_HB, Q_NB110_109, Q_NB109_110, Q_BK109, Q_GW109, Q_GE109, Q_NB103_109, Q_NB109_103, Q_NB104_109, Q_NB109_104, Q_BK110, Q_GW110, Q_GE110, Q_NB103_110, Q_NB110_103, Q_NB104_110, Q_NB110_104, fun h0_ => absurd ((hoff 6 (by kernel_rfl)).symm.trans h0_) (by decide), fun h0_ => absurd ((hoff 7 (by kernel_rfl)).symm.trans h0_) (by decide), Q_X4_, Q_X5_⟩
    refine steps_cons ?_ ?_
    ·rintro b a w' ⟨gb109, gb110, m4_, m5_, ha, Q_BK103, Q_BK104, Q_HB, Q_NB110_109, Q_NB109_110, Q_BK109, Q_GW109, Q_GE109, Q_NB103_109, Q_NB109_103, Q_NB104_109, Q_NB109_104, Q_BK110, Q_GW110, Q_GE110, Q_NB103_110, Q_NB110_103, Q_NB104_110, Q_NB110_104, Q_BK109_e6, Q_BK110_e7, Q_X4_, Q_X5_⟩ hb_ hon hoff
     refine ⟨_, rfl, fun K hK => ?_⟩
     have e9 : a.tmps[9]? = some (.agg #[.int .i64 a1_0, .int .i64 a1_1]) := by rw [ha]; exact putSel_on (e := (2, 9, .agg #[.int .i64 a1_0, .int .i64 a1_1])) 2 rfl rfl (hon 2 (by kernel_rfl)) rfl
     replace ha := Aside0.mk ha
     have BK103 := Aside0.mk Q_BK103
     have BK104 := Aside0.mk Q_BK104
     have HB := Aside0.mk Q_HB
     refine goes_ Tryd.func21 (by kernel_rfl) rfl #[.agg #[.int .i64 a1_0, .int .i64 a1_1]] (by rfl) rfl rfl (by first | (simp only [List.map_toArray, List.map_cons, List.map_nil, Act.eval, Array.getD_eq_getD_getElem?, Option.getD_some, e9]; done) | (simp only [List.map_toArray, List.map_cons, List.map_nil, Act.eval, Array.getD_eq_getD_getElem?, Option.getD_some, e9]; rfl)) ?_
     with_reducible refine (acceptor_pair.calls a1_0 a1_1 t107 t108 _ A4.out).mono ?_
     rintro e w12 ⟨rfl, hb⟩
     refine ⟨_, rfl, ?_⟩
     have n0_ := Aside0.mk (nb BK103.out hb)
     have n1_ := Aside0.mk (nb BK104.out hb)
     have n2_ := Aside0.mk (below_step bw hb)
     have z_BK109 := fun (h0_ : b 4 = true) (h1_ : b 6 = false) => (show w12.heap[gb109]? = some (.cells #[.int .i64 0, .int .i64 0] 59 (0, 0)) from by first | exact (blk_below (g := gb109) (o := .cells #[.int .i64 0, .int .i64 0] 59 (0, 0)) (by (with_reducible repeat (first | refine blk_drewN ?_ _ | refine blk_drew ?_ | refine blk_alloc ?_ _)); exact (Q_BK109 h0_ h1_)) hb))
     have z_BK110 := fun (h0_ : b 5 = true) (h1_ : b 7 = false) => (show w12.heap[gb110]? = some (.cells #[.int .i64 0, .int .i64 0] 59 (0, 0)) from by first | exact (blk_below (g := gb110) (o := .cells #[.int .i64 0, .int .i64 0] 59 (0, 0)) (by (with_reducible repeat (first | refine blk_drewN ?_ _ | refine blk_drew ?_ | refine blk_alloc ?_ _)); exact (Q_BK110 h0_ h1_)) hb))
     clear BK103
     clear BK104
     clear HB
     have BK103 := n0_
     have BK104 := n1_
     have HB := n2_
     clear n0_ n1_ n2_
     (try clear hb)
     (try clear hb2)
     (try clear hk)
     (try clear hi)
     refine hK.out _ _ ⟨gb109, gb110, m4_, m5_, (by rw [ha.out]; exact putSel_upk 3 hb_ rfl rfl rfl), (bk BK103.out), (bk BK104.out), bw, Q_NB110_109, Q_NB109_110, z_BK109, Q_GW109, Q_GE109, Q_NB103_109, Q_NB109_103, Q_NB104_109, Q_NB109_104, z_BK110, Q_GW110, Q_GE110, Q_NB103_110, Q_NB110_103, Q_NB104_110, Q_NB110_104, fun h0_ => absurd ((hoff 6 (by kernel_rfl)).symm.trans h0_) (by decide), fun h0_ => absurd ((hoff 7 (by kernel_rfl)).symm.trans h0_) (by decide), Q_X4_, Q_X5_⟩
    refine steps_cons ?_ ?_
    ·rintro b a w' ⟨gb109, gb110, m4_, m5_, ha, Q_BK103, Q_BK104, Q_HB, Q_NB110_109, Q_NB109_110, Q_BK109, Q_GW109, Q_GE109, Q_NB103_109, Q_NB109_103, Q_NB104_109, Q_NB109_104, Q_BK110, Q_GW110, Q_GE110, Q_NB103_110, Q_NB110_103, Q_NB104_110, Q_NB110_104, Q_BK109_e6, Q_BK110_e7, Q_X4_, Q_X5_⟩ hb_ hon hoff
     refine ⟨_, rfl, fun K hK => ?_⟩
     replace ha := Aside0.mk ha
     have BK103 := Aside0.mk Q_BK103
     have BK104 := Aside0.mk Q_BK104
     have HB := Aside0.mk Q_HB
     refine box_step ?hg (N := 5) ?hd (cs := #[.int .i64 0, .int .i64 0]) (t := 59) ?hr ?_; (case hd => rfl); (case hg => rfl); (case hr => first | (go_simp; done) | (go_simp; rfl))
     intro gb109 hg w10 hbox hb
     have n0_ := Aside0.mk (nb BK103.out hb)
     have n1_ := Aside0.mk (nb BK104.out hb)
     have n2_ := Aside0.mk (below_step bw hb)
     have n3_ := Aside0.mk (hbox)
     have n4_ := Aside0.mk ((g1 hg bw : w.heap.size ≤ gb109))
     have n5_ := Aside0.mk ((g1 hg bw : w.heap.size ≤ gb109))
     have n6_ := Aside0.mk ((n1 hg BK103.out : gb103 ≠ gb109))
     have n7_ := Aside0.mk ((n2 hg BK103.out : gb109 ≠ gb103))
     have n8_ := Aside0.mk ((n1 hg BK104.out : gb104 ≠ gb109))
     have n9_ := Aside0.mk ((n2 hg BK104.out : gb109 ≠ gb104))
     have z_NB110_109 := fun (h0_ : up b 4 4 = true) (h1_ : up b 4 5 = true) => (show gb110 ≠ gb109 from ((by rw [hg]; exact Nat.ne_of_lt (blk_lt (g := gb110) (o := .cells #[.int .i64 0, .int .i64 0] 59 (0, 0)) (by (with_reducible repeat (first | refine blk_drewN ?_ _ | refine blk_drew ?_ | refine blk_alloc ?_ _)); (first | exact BK110.out | exact Q_BK110 (by first | exact h0_ | exact h1_ | exact (up_ne (by decide)).symm.trans h0_ | exact (up_ne (by decide)).symm.trans h1_) (hoff _ (by kernel_rfl))))) : gb110 ≠ gb109)))
     have z_NB109_110 := fun (h0_ : up b 4 4 = true) (h1_ : up b 4 5 = true) => (show gb109 ≠ gb110 from ((by rw [hg]; exact Nat.ne_of_gt (blk_lt (g := gb110) (o := .cells #[.int .i64 0, .int .i64 0] 59 (0, 0)) (by (with_reducible repeat (first | refine blk_drewN ?_ _ | refine blk_drew ?_ | refine blk_alloc ?_ _)); (first | exact BK110.out | exact Q_BK110 (by first | exact h0_ | exact h1_ | exact (up_ne (by decide)).symm.trans h0_ | exact (up_ne (by decide)).symm.trans h1_) (hoff _ (by kernel_rfl))))) : gb109 ≠ gb110)))
     have z_BK110 := fun (h0_ : b 5 = true) (h1_ : b 7 = false) => (show w10.heap[gb110]? = some (.cells #[.int .i64 0, .int .i64 0] 59 (0, 0)) from by first | exact (blk_below (g := gb110) (o := .cells #[.int .i64 0, .int .i64 0] 59 (0, 0)) (by (with_reducible repeat (first | refine blk_drewN ?_ _ | refine blk_drew ?_ | refine blk_alloc ?_ _)); exact (Q_BK110 h0_ h1_)) hb))
     clear BK103
     clear BK104
     clear HB
     have BK103 := n0_
     have BK104 := n1_
     have HB := n2_
     have BK109 := n3_
     have GW109 := n4_
     have GE109 := n5_
     have NB103_109 := n6_
     have NB109_103 := n7_
     have NB104_109 := n8_
     have NB109_104 := n9_
     clear n0_ n1_ n2_ n3_ n4_ n5_ n6_ n7_ n8_ n9_
     clear hb hbox hg
     refine hK.out _ _ ⟨gb109, gb110, (.pointer (some ⟨gb109, 0, none⟩)), m5_, (by rw [ha.out]; exact putSel_upk 4 hb_ rfl rfl rfl), (bk BK103.out), (bk BK104.out), bw, z_NB110_109, z_NB109_110, fun _ _ => (bk BK109.out), fun _ => GW109.out, fun _ => GE109.out, fun _ => NB103_109.out, fun _ => NB109_103.out, fun _ => NB104_109.out, fun _ => NB109_104.out, z_BK110, Q_GW110, Q_GE110, Q_NB103_110, Q_NB110_103, Q_NB104_110, Q_NB110_104, fun h0_ => absurd ((hoff 6 (by kernel_rfl)).symm.trans h0_) (by decide), fun h0_ => absurd ((hoff 7 (by kernel_rfl)).symm.trans h0_) (by decide), fun _ => rfl, Q_X5_⟩
    refine steps_cons ?_ ?_
    ·rintro b a w' ⟨gb109, gb110, m4_, m5_, ha, Q_BK103, Q_BK104, Q_HB, Q_NB110_109, Q_NB109_110, Q_BK109, Q_GW109, Q_GE109, Q_NB103_109, Q_NB109_103, Q_NB104_109, Q_NB109_104, Q_BK110, Q_GW110, Q_GE110, Q_NB103_110, Q_NB110_103, Q_NB104_110, Q_NB110_104, Q_BK109_e6, Q_BK110_e7, Q_X4_, Q_X5_⟩ hb_ hon hoff
     refine ⟨_, rfl, fun K hK => ?_⟩
     replace ha := Aside0.mk ha
     have BK103 := Aside0.mk Q_BK103
     have BK104 := Aside0.mk Q_BK104
     have HB := Aside0.mk Q_HB
     refine box_step ?hg (N := 6) ?hd (cs := #[.int .i64 0, .int .i64 0]) (t := 59) ?hr ?_; (case hd => rfl); (case hg => rfl); (case hr => first | (go_simp; done) | (go_simp; rfl))
     intro gb110 hg w10 hbox hb
     have n0_ := Aside0.mk (nb BK103.out hb)
     have n1_ := Aside0.mk (nb BK104.out hb)
     have n2_ := Aside0.mk (below_step bw hb)
     have n3_ := Aside0.mk (hbox)
     have n4_ := Aside0.mk ((g1 hg bw : w.heap.size ≤ gb110))
     have n5_ := Aside0.mk ((g1 hg bw : w.heap.size ≤ gb110))
     have n6_ := Aside0.mk ((n1 hg BK103.out : gb103 ≠ gb110))
     have n7_ := Aside0.mk ((n2 hg BK103.out : gb110 ≠ gb103))
     have n8_ := Aside0.mk ((n1 hg BK104.out : gb104 ≠ gb110))
     have n9_ := Aside0.mk ((n2 hg BK104.out : gb110 ≠ gb104))
     have z_NB110_109 := fun (h0_ : up b 5 4 = true) (h1_ : up b 5 5 = true) => (show gb110 ≠ gb109 from ((by rw [hg]; exact Nat.ne_of_gt (blk_lt (g := gb109) (o := .cells #[.int .i64 0, .int .i64 0] 59 (0, 0)) (by (with_reducible repeat (first | refine blk_drewN ?_ _ | refine blk_drew ?_ | refine blk_alloc ?_ _)); (first | exact BK109.out | exact Q_BK109 (by first | exact h0_ | exact h1_ | exact (up_ne (by decide)).symm.trans h0_ | exact (up_ne (by decide)).symm.trans h1_) (hoff _ (by kernel_rfl))))) : gb110 ≠ gb109)))
     have z_NB109_110 := fun (h0_ : up b 5 4 = true) (h1_ : up b 5 5 = true) => (show gb109 ≠ gb110 from ((by rw [hg]; exact Nat.ne_of_lt (blk_lt (g := gb109) (o := .cells #[.int .i64 0, .int .i64 0] 59 (0, 0)) (by (with_reducible repeat (first | refine blk_drewN ?_ _ | refine blk_drew ?_ | refine blk_alloc ?_ _)); (first | exact BK109.out | exact Q_BK109 (by first | exact h0_ | exact h1_ | exact (up_ne (by decide)).symm.trans h0_ | exact (up_ne (by decide)).symm.trans h1_) (hoff _ (by kernel_rfl))))) : gb109 ≠ gb110)))
     have z_BK109 := fun (h0_ : b 4 = true) (h1_ : b 6 = false) => (show w10.heap[gb109]? = some (.cells #[.int .i64 0, .int .i64 0] 59 (0, 0)) from by first | exact (blk_below (g := gb109) (o := .cells #[.int .i64 0, .int .i64 0] 59 (0, 0)) (by (with_reducible repeat (first | refine blk_drewN ?_ _ | refine blk_drew ?_ | refine blk_alloc ?_ _)); exact (Q_BK109 h0_ h1_)) hb))
     clear BK103
     clear BK104
     clear HB
     have BK103 := n0_
     have BK104 := n1_
     have HB := n2_
     have BK110 := n3_
     have GW110 := n4_
     have GE110 := n5_
     have NB103_110 := n6_
     have NB110_103 := n7_
     have NB104_110 := n8_
     have NB110_104 := n9_
     clear n0_ n1_ n2_ n3_ n4_ n5_ n6_ n7_ n8_ n9_
     clear hb hbox hg
     refine hK.out _ _ ⟨gb109, gb110, m4_, (.pointer (some ⟨gb110, 0, none⟩)), (by rw [ha.out]; exact putSel_upk 5 hb_ rfl rfl rfl), (bk BK103.out), (bk BK104.out), bw, z_NB110_109, z_NB109_110, z_BK109, Q_GW109, Q_GE109, Q_NB103_109, Q_NB109_103, Q_NB104_109, Q_NB109_104, fun _ _ => (bk BK110.out), fun _ => GW110.out, fun _ => GE110.out, fun _ => NB103_110.out, fun _ => NB110_103.out, fun _ => NB104_110.out, fun _ => NB110_104.out, fun h0_ => absurd ((hoff 6 (by kernel_rfl)).symm.trans h0_) (by decide), fun h0_ => absurd ((hoff 7 (by kernel_rfl)).symm.trans h0_) (by decide), Q_X4_, fun _ => rfl⟩
    refine steps_cons ?_ ?_
    ·rintro b a w' ⟨gb109, gb110, m4_, m5_, ha, Q_BK103, Q_BK104, Q_HB, Q_NB110_109, Q_NB109_110, Q_BK109, Q_GW109, Q_GE109, Q_NB103_109, Q_NB109_103, Q_NB104_109, Q_NB109_104, Q_BK110, Q_GW110, Q_GE110, Q_NB103_110, Q_NB110_103, Q_NB104_110, Q_NB110_104, Q_BK109_e6, Q_BK110_e7, Q_X4_, Q_X5_⟩ hb_ hon hoff
     refine ⟨_, rfl, fun K hK => ?_⟩
     have e5 : a.tmps[5]? = some (m4_) := by rw [ha]; exact putSel_on (e := (4, 5, m4_)) 4 rfl rfl (hon 4 (by kernel_rfl)) rfl
     rw [Q_X4_ (hon 4 (by kernel_rfl))] at e5
     have e8 : a.tmps[8]? = some (.agg #[.int .i64 t105, .int .i64 t106]) := by rw [ha]; exact putSel_on (e := (1, 8, .agg #[.int .i64 t105, .int .i64 t106])) 1 rfl rfl (hon 1 (by kernel_rfl)) rfl
     replace ha := Aside0.mk ha
     have BK103 := Aside0.mk Q_BK103
     have BK104 := Aside0.mk Q_BK104
     have HB := Aside0.mk Q_HB
     have NB110_109 := Aside0.mk (Q_NB110_109 (hon 4 (by kernel_rfl)) (hon 5 (by kernel_rfl)))
     have NB109_110 := Aside0.mk (Q_NB109_110 (hon 4 (by kernel_rfl)) (hon 5 (by kernel_rfl)))
     have BK109 := Aside0.mk (Q_BK109 (hon 4 (by kernel_rfl)) hb_)
     have GW109 := Aside0.mk (Q_GW109 (hon 4 (by kernel_rfl)))
     have GE109 := Aside0.mk (Q_GE109 (hon 4 (by kernel_rfl)))
     have NB103_109 := Aside0.mk (Q_NB103_109 (hon 4 (by kernel_rfl)))
     have NB109_103 := Aside0.mk (Q_NB109_103 (hon 4 (by kernel_rfl)))
     have NB104_109 := Aside0.mk (Q_NB104_109 (hon 4 (by kernel_rfl)))
     have NB109_104 := Aside0.mk (Q_NB109_104 (hon 4 (by kernel_rfl)))
     have BK110 := Aside0.mk (Q_BK110 (hon 5 (by kernel_rfl)) (hoff 7 (by kernel_rfl)))
     have GW110 := Aside0.mk (Q_GW110 (hon 5 (by kernel_rfl)))
     have GE110 := Aside0.mk (Q_GE110 (hon 5 (by kernel_rfl)))
     have NB103_110 := Aside0.mk (Q_NB103_110 (hon 5 (by kernel_rfl)))
     have NB110_103 := Aside0.mk (Q_NB110_103 (hon 5 (by kernel_rfl)))
     have NB104_110 := Aside0.mk (Q_NB104_110 (hon 5 (by kernel_rfl)))
     have NB110_104 := Aside0.mk (Q_NB110_104 (hon 5 (by kernel_rfl)))
     have hs15 : w'.cell? ⟨gb109, 0, none⟩ = some (.int .i64 0) := (blk_cell BK109.out 0).trans rfl
     have hfs15 := blk_frozen BK109.out 0
     have hns15_0 := NB103_109.out
     have hns15_1 := NB104_109.out
     have hns15_3 := NB110_109.out
     have hms15_0 := NB109_103.out
     have hms15_1 := NB109_104.out
     have hms15_3 := NB109_110.out
     have hs16 : w'.cell? ⟨gb109, 1, none⟩ = some (.int .i64 0) := (blk_cell BK109.out 1).trans rfl
     have hfs16 := blk_frozen BK109.out 1
     have hns16_0 := NB103_109.out
     have hns16_1 := NB104_109.out
     have hns16_3 := NB110_109.out
     have hms16_0 := NB109_103.out
     have hms16_1 := NB109_104.out
     have hms16_3 := NB109_110.out
     refine skip_ (w1 := ?_) (by rfl) rfl ?_ ?_
     rotate_left
     ·go_simp
      rfl
     refine hK.out _ _ ⟨gb109, gb110, m4_, m5_, (by rw [ha.out]; exact putSel_none (v := undef) rfl), (by (with_reducible repeat (first | refine blk_drewN ?_ _ | refine blk_drew ?_ | refine blk_alloc ?_ _ | refine blk_far ?_ NB103_109.out _)); exact BK103.out), (by (with_reducible repeat (first | refine blk_drewN ?_ _ | refine blk_drew ?_ | refine blk_alloc ?_ _ | refine blk_far ?_ NB104_109.out _)); exact BK104.out), bw, fun _ _ => NB110_109.out, fun _ _ => NB109_110.out, fun _ h1_ => absurd ((up_self b 6).symm.trans h1_) (by decide), fun _ => GW109.out, fun _ => GE109.out, fun _ => NB103_109.out, fun _ => NB109_103.out, fun _ => NB104_109.out, fun _ => NB109_104.out, fun _ _ => (by (with_reducible repeat (first | refine blk_drewN ?_ _ | refine blk_drew ?_ | refine blk_alloc ?_ _ | refine blk_far ?_ NB110_109.out _)); exact BK110.out), fun _ => GW110.out, fun _ => GE110.out, fun _ => NB103_110.out, fun _ => NB110_103.out, fun _ => NB104_110.out, fun _ => NB110_104.out, fun _ => (by (with_reducible repeat (first | refine blk_drewN ?_ _ | refine blk_drew ?_ | refine blk_alloc ?_ _)); refine blk_put (cs := #[.int .i64 t105, .int .i64 0]) ?_ 1 _ rfl; (with_reducible repeat (first | refine blk_drewN ?_ _ | refine blk_drew ?_ | refine blk_alloc ?_ _)); refine blk_put (cs := #[.int .i64 0, .int .i64 0]) ?_ 0 _ rfl; (with_reducible repeat (first | refine blk_drewN ?_ _ | refine blk_drew ?_ | refine blk_alloc ?_ _)); exact BK109.out), fun h0_ => absurd ((hoff 7 (by kernel_rfl)).symm.trans h0_) (by decide), Q_X4_, Q_X5_⟩
    refine steps_cons ?_ ?_
    ·rintro b a w' ⟨gb109, gb110, m4_, m5_, ha, Q_BK103, Q_BK104, Q_HB, Q_NB110_109, Q_NB109_110, Q_BK109, Q_GW109, Q_GE109, Q_NB103_109, Q_NB109_103, Q_NB104_109, Q_NB109_104, Q_BK110, Q_GW110, Q_GE110, Q_NB103_110, Q_NB110_103, Q_NB104_110, Q_NB110_104, Q_BK109_e6, Q_BK110_e7, Q_X4_, Q_X5_⟩ hb_ hon hoff
     refine ⟨_, rfl, fun K hK => ?_⟩
     have e6 : a.tmps[6]? = some (m5_) := by rw [ha]; exact putSel_on (e := (5, 6, m5_)) 5 rfl rfl (hon 5 (by kernel_rfl)) rfl
     rw [Q_X5_ (hon 5 (by kernel_rfl))] at e6
     have e10 : a.tmps[10]? = some (.agg #[.int .i64 t107, .int .i64 t108]) := by rw [ha]; exact putSel_on (e := (3, 10, .agg #[.int .i64 t107, .int .i64 t108])) 3 rfl rfl (hon 3 (by kernel_rfl)) rfl
     replace ha := Aside0.mk ha
     have BK103 := Aside0.mk Q_BK103
     have BK104 := Aside0.mk Q_BK104
     have HB := Aside0.mk Q_HB
     have NB110_109 := Aside0.mk (Q_NB110_109 (hon 4 (by kernel_rfl)) (hon 5 (by kernel_rfl)))
     have NB109_110 := Aside0.mk (Q_NB109_110 (hon 4 (by kernel_rfl)) (hon 5 (by kernel_rfl)))
     have GW109 := Aside0.mk (Q_GW109 (hon 4 (by kernel_rfl)))
     have GE109 := Aside0.mk (Q_GE109 (hon 4 (by kernel_rfl)))
     have NB103_109 := Aside0.mk (Q_NB103_109 (hon 4 (by kernel_rfl)))
     have NB109_103 := Aside0.mk (Q_NB109_103 (hon 4 (by kernel_rfl)))
     have NB104_109 := Aside0.mk (Q_NB104_109 (hon 4 (by kernel_rfl)))
     have NB109_104 := Aside0.mk (Q_NB109_104 (hon 4 (by kernel_rfl)))
     have BK110 := Aside0.mk (Q_BK110 (hon 5 (by kernel_rfl)) hb_)
     have GW110 := Aside0.mk (Q_GW110 (hon 5 (by kernel_rfl)))
     have GE110 := Aside0.mk (Q_GE110 (hon 5 (by kernel_rfl)))
     have NB103_110 := Aside0.mk (Q_NB103_110 (hon 5 (by kernel_rfl)))
     have NB110_103 := Aside0.mk (Q_NB110_103 (hon 5 (by kernel_rfl)))
     have NB104_110 := Aside0.mk (Q_NB104_110 (hon 5 (by kernel_rfl)))
     have NB110_104 := Aside0.mk (Q_NB110_104 (hon 5 (by kernel_rfl)))
     have BK109 := Aside0.mk (Q_BK109_e6 (hon 6 (by kernel_rfl)))
     have hs17 : w'.cell? ⟨gb110, 0, none⟩ = some (.int .i64 0) := (blk_cell BK110.out 0).trans rfl
     have hfs17 := blk_frozen BK110.out 0
     have hns17_0 := NB103_110.out
     have hns17_1 := NB104_110.out
     have hns17_2 := NB109_110.out
     have hms17_0 := NB110_103.out
     have hms17_1 := NB110_104.out
     have hms17_2 := NB110_109.out
     have hs18 : w'.cell? ⟨gb110, 1, none⟩ = some (.int .i64 0) := (blk_cell BK110.out 1).trans rfl
     have hfs18 := blk_frozen BK110.out 1
     have hns18_0 := NB103_110.out
     have hns18_1 := NB104_110.out
     have hns18_2 := NB109_110.out
     have hms18_0 := NB110_103.out
     have hms18_1 := NB110_104.out
     have hms18_2 := NB110_109.out
     refine skip_ (w1 := ?_) (by rfl) rfl ?_ ?_
     rotate_left
     ·go_simp
      rfl
     refine hK.out _ _ ⟨gb109, gb110, m4_, m5_, (by rw [ha.out]; exact putSel_none (v := undef) rfl), (by (with_reducible repeat (first | refine blk_drewN ?_ _ | refine blk_drew ?_ | refine blk_alloc ?_ _ | refine blk_far ?_ NB103_110.out _)); exact BK103.out), (by (with_reducible repeat (first | refine blk_drewN ?_ _ | refine blk_drew ?_ | refine blk_alloc ?_ _ | refine blk_far ?_ NB104_110.out _)); exact BK104.out), bw, fun _ _ => NB110_109.out, fun _ _ => NB109_110.out, fun _ h1_ => absurd ((hon 6 (by kernel_rfl)).symm.trans h1_) (by decide), fun _ => GW109.out, fun _ => GE109.out, fun _ => NB103_109.out, fun _ => NB109_103.out, fun _ => NB104_109.out, fun _ => NB109_104.out, fun _ h1_ => absurd ((up_self b 7).symm.trans h1_) (by decide), fun _ => GW110.out, fun _ => GE110.out, fun _ => NB103_110.out, fun _ => NB110_103.out, fun _ => NB104_110.out, fun _ => NB110_104.out, fun _ => (by (with_reducible repeat (first | refine blk_drewN ?_ _ | refine blk_drew ?_ | refine blk_alloc ?_ _ | refine blk_far ?_ NB109_110.out _)); exact BK109.out), fun _ => (by (with_reducible repeat (first | refine blk_drewN ?_ _ | refine blk_drew ?_ | refine blk_alloc ?_ _)); refine blk_put (cs := #[.int .i64 t107, .int .i64 0]) ?_ 1 _ rfl; (with_reducible repeat (first | refine blk_drewN ?_ _ | refine blk_drew ?_ | refine blk_alloc ?_ _)); refine blk_put (cs := #[.int .i64 0, .int .i64 0]) ?_ 0 _ rfl; (with_reducible repeat (first | refine blk_drewN ?_ _ | refine blk_drew ?_ | refine blk_alloc ?_ _)); exact BK110.out), Q_X4_, Q_X5_⟩
    exact steps_nil
   rintro b a w18 hall ⟨gb109, gb110, m4_, m5_, ha, Q_BK103, Q_BK104, Q_HB, Q_NB110_109, Q_NB109_110, Q_BK109, Q_GW109, Q_GE109, Q_NB103_109, Q_NB109_103, Q_NB104_109, Q_NB109_104, Q_BK110, Q_GW110, Q_GE110, Q_NB103_110, Q_NB110_103, Q_NB104_110, Q_NB110_104, Q_BK109_e6, Q_BK110_e7, Q_X4_, Q_X5_⟩
   clear BK103 BK104 HB
   have hb0_ := hall 0 (by kernel_rfl)
   have hb1_ := hall 1 (by kernel_rfl)
   have hb2_ := hall 2 (by kernel_rfl)
   have hb3_ := hall 3 (by kernel_rfl)
   have hb4_ := hall 4 (by kernel_rfl)
   have hb5_ := hall 5 (by kernel_rfl)
   have hb6_ := hall 6 (by kernel_rfl)
   have hb7_ := hall 7 (by kernel_rfl)
   subst ha
   obtain rfl := Q_X4_ hb4_
   obtain rfl := Q_X5_ hb5_
   simp only [putSel, hb0_, hb1_, hb2_, hb3_, hb4_, hb5_, hb6_, hb7_, if_true, Act.put, sl1, sl2, sl3]
   have BK103 := Aside0.mk Q_BK103
   clear Q_BK103
   have BK104 := Aside0.mk Q_BK104
   clear Q_BK104
   have HB := Aside0.mk Q_HB
   clear Q_HB
   have NB110_109 := Aside0.mk (Q_NB110_109 hb4_ hb5_)
   clear Q_NB110_109
   have NB109_110 := Aside0.mk (Q_NB109_110 hb4_ hb5_)
   clear Q_NB109_110
   clear Q_BK109
   have GW109 := Aside0.mk (Q_GW109 hb4_)
   clear Q_GW109
   have GE109 := Aside0.mk (Q_GE109 hb4_)
   clear Q_GE109
   have NB103_109 := Aside0.mk (Q_NB103_109 hb4_)
   clear Q_NB103_109
   have NB109_103 := Aside0.mk (Q_NB109_103 hb4_)
   clear Q_NB109_103
   have NB104_109 := Aside0.mk (Q_NB104_109 hb4_)
   clear Q_NB104_109
   have NB109_104 := Aside0.mk (Q_NB109_104 hb4_)
   clear Q_NB109_104
   clear Q_BK110
   have GW110 := Aside0.mk (Q_GW110 hb5_)
   clear Q_GW110
   have GE110 := Aside0.mk (Q_GE110 hb5_)
   clear Q_GE110
   have NB103_110 := Aside0.mk (Q_NB103_110 hb5_)
   clear Q_NB103_110
   have NB110_103 := Aside0.mk (Q_NB110_103 hb5_)
   clear Q_NB110_103
   have NB104_110 := Aside0.mk (Q_NB104_110 hb5_)
   clear Q_NB104_110
   have NB110_104 := Aside0.mk (Q_NB110_104 hb5_)
   clear Q_NB110_104
   have BK109 := Aside0.mk (Q_BK109_e6 hb6_)
   clear Q_BK109_e6
   have BK110 := Aside0.mk (Q_BK110_e7 hb7_)
   clear Q_BK110_e7
   clear hall hb0_ hb1_ hb2_ hb3_ hb4_ hb5_ hb6_ hb7_
   have hnb19 := NB109_103.out
   have hnc19 := NB103_109.out
   have hnb20 := NB109_104.out
   have hnc20 := NB104_109.out
   have hnb21 := NB109_110.out
   have hnc21 := NB110_109.out
   have hcz22_0 := bc2_0 BK109.out
   have hcz22_1 := bc2_1 BK109.out
   have hfz22_0 := blk_frozen BK109.out 0
   have hfz22_1 := blk_frozen BK109.out 1
   have hnb23 := NB110_103.out
   have hnc23 := NB103_110.out
   have hnb24 := NB110_104.out
   have hnc24 := NB104_110.out
   have hcz25_0 := bc2_0 BK110.out
   have hcz25_1 := bc2_1 BK110.out
   have hfz25_0 := blk_frozen BK110.out 0
   have hfz25_1 := blk_frozen BK110.out 1
   try go_wp2
   go_ret
   exact ⟨er, bw⟩
  ·rw [if_neg c6] at H
   have c6b0 : decide (t105 < t107) = false := decide_eq_false c6
   clear c6
   by_cases c26 : t105 = t107
   ·rw [if_pos c26] at H
    have c26b0 : (t105 == t107) = true := beq_iff_eq.mpr c26
    (try simp only [c26b0, Bool.not_true, Bool.not_false, Bool.false_or, Bool.true_or, Bool.true_and, Bool.false_and, Bool.true_beq, Bool.false_beq, beq_true, beq_false] at c5b0)
    have c26b1 : (t105 != t107) = false := bne_eq_false_iff_eq.mpr c26
    clear c26
    obtain rfl := Option.some.inj H
    go_enter Tryd.func13, Tryd.ntmps13
    try go_wp2_with (first | ((with_reducible refine gate_dst (N := 2) rfl ?_); refine box_event ?hg (N := 2) ?hd (cs := #[.int .i64 a0_0, .int .i64 a0_1]) (t := 23) ?hr ?_; (case hd => rfl); (case hg => rfl); (case hr => first | (go_simp; done) | (go_simp; rfl)); intro gb103 hg w27 hbox hb; have n0_ := Aside0.mk (below_step bw hb); have n1_ := Aside0.mk (hbox); have n2_ := Aside0.mk ((g1 hg bw : w.heap.size ≤ gb103)); have n3_ := Aside0.mk ((g1 hg bw : w.heap.size ≤ gb103)); clear HB; have HB := n0_; have BK103 := n1_; have GW103 := n2_; have GE103 := n3_; clear n0_ n1_ n2_ n3_; clear hb hbox hg) | ((with_reducible refine gate_dst (N := 3) rfl ?_); refine box_event ?hg (N := 3) ?hd (cs := #[.int .i64 a1_0, .int .i64 a1_1]) (t := 23) ?hr ?_; (case hd => rfl); (case hg => rfl); (case hr => first | (go_simp; done) | (go_simp; rfl)); intro gb104 hg w28 hbox hb; have n0_ := Aside0.mk (nb BK103.out hb); have n1_ := Aside0.mk (below_step bw hb); have n2_ := Aside0.mk (hbox); have n3_ := Aside0.mk ((g1 hg bw : w.heap.size ≤ gb104)); have n4_ := Aside0.mk ((g1 hg bw : w.heap.size ≤ gb104)); have n5_ := Aside0.mk ((n1 hg BK103.out : gb103 ≠ gb104)); have n6_ := Aside0.mk ((n2 hg BK103.out : gb104 ≠ gb103)); clear BK103; clear HB; have BK103 := n0_; have HB := n1_; have BK104 := n2_; have GW104 := n3_; have GE104 := n4_; have NB103_104 := n5_; have NB104_103 := n6_; clear n0_ n1_ n2_ n3_ n4_ n5_ n6_; clear hb hbox hg))
    have n0_ := Aside0.mk (blk_drew BK103.out)
    have n1_ := Aside0.mk (blk_drew BK104.out)
    have n2_ := Aside0.mk (below_drew1 HB.out)
    clear BK103
    clear BK104
    clear HB
    have BK103 := n0_
    have BK104 := n1_
    have HB := n2_
    clear n0_ n1_ n2_
    refine start_ (n := 8) (S := fun w' => True) (ds := []) #[false, false, false, false, false, false, false, false] (by kernel_rfl) rfl rfl trivial (fun hHeld => ?_); refine with_tabW acceptor_Less.tab1 acceptor_Less.bits1 (fun HT_ HW_ => ?_)
    generalize w28.drew = w29 at BK103 BK104 HB hHeld ⊢
    refine inv_at [0, 1, 2, 3, 4, 5, 6, 7] (fun a0_ b a w' => ∃ (gb109 : Nat) (gb110 : Nat) (m4_ : Value) (m5_ : Value), a = putSel a0_ b [(0, 7, .agg #[.int .i64 a0_0, .int .i64 a0_1]), (1, 8, .agg #[.int .i64 t105, .int .i64 t106]), (2, 9, .agg #[.int .i64 a1_0, .int .i64 a1_1]), (3, 10, .agg #[.int .i64 t107, .int .i64 t108]), (4, 5, m4_), (5, 6, m5_)] ∧ (w'.heap[gb103]? = some (.cells #[.int .i64 a0_0, .int .i64 a0_1] 23 (0, 0))) ∧ (w'.heap[gb104]? = some (.cells #[.int .i64 a1_0, .int .i64 a1_1] 23 (0, 0))) ∧ (Below w.heap.size w w') ∧ (b 4 = true → b 5 = true → gb110 ≠ gb109) ∧ (b 4 = true → b 5 = true → gb109 ≠ gb110) ∧ (b 4 = true → b 6 = false → w'.heap[gb109]? = some (.cells #[.int .i64 0, .int .i64 0] 59 (0, 0))) ∧ (b 4 = true → w.heap.size ≤ gb109) ∧ (b 4 = true → w.heap.size ≤ gb109) ∧ (b 4 = true → gb103 ≠ gb109) ∧ (b 4 = true → gb109 ≠ gb103) ∧ (b 4 = true → gb104 ≠ gb109) ∧ (b 4 = true → gb109 ≠ gb104) ∧ (b 5 = true → b 7 = false → w'.heap[gb110]? = some (.cells #[.int .i64 0, .int .i64 0] 59 (0, 0))) ∧ (b 5 = true → w.heap.size ≤ gb110) ∧ (b 5 = true → w.heap.size ≤ gb110) ∧ (b 5 = true → gb103 ≠ gb110) ∧ (b 5 = true → gb110 ≠ gb103) ∧ (b 5 = true → gb104 ≠ gb110) ∧ (b 5 = true → gb110 ≠ gb104) ∧ (b 6 = true → w'.heap[gb109]? = some (.cells #[.int .i64 t105, .int .i64 t106] 59 (0, 0))) ∧ (b 7 = true → w'.heap[gb110]? = some (.cells #[.int .i64 t107, .int .i64 t108] 59 (0, 0))) ∧ (b 4 = true → (m4_ : Value) = .pointer (some ⟨gb109, 0, none⟩)) ∧ (b 5 = true → (m5_ : Value) = .pointer (some ⟨gb110, 0, none⟩))) HT_.out HW_.out (by kernel_rfl) (by kernel_rfl) ?_ ?_ ?_
    ·exact ⟨0, 0, .bool false, .bool false, by simp only [putSel, Bool.false_eq_true, if_false], BK103.out, BK104.out, HB.out, fun h_ => absurd h_ (by decide), fun h_ => absurd h_ (by decide), fun h_ => absurd h_ (by decide), fun h_ => absurd h_ (by decide), fun h_ => absurd h_ (by decide), fun h_ => absurd h_ (by decide), fun h_ => absurd h_ (by decide), fun h_ => absurd h_ (by decide), fun h_ => absurd h_ (by decide), fun h_ => absurd h_ (by decide), fun h_ => absurd h_ (by decide), fun h_ => absurd h_ (by decide), fun h_ => absurd h_ (by decide), fun h_ => absurd h_ (by decide), fun h_ => absurd h_ (by decide), fun h_ => absurd h_ (by decide), fun h_ => absurd h_ (by decide), fun h_ => absurd h_ (by decide), fun h_ => absurd h_ (by decide), fun h_ => absurd h_ (by decide)⟩
    ·skip
     clear BK103 BK104 HB
     refine steps_cons ?_ ?_
     ·rintro b a w' ⟨gb109, gb110, m4_, m5_, ha, Q_BK103, Q_BK104, Q_HB, Q_NB110_109, Q_NB109_110, Q_BK109, Q_GW109, Q_GE109, Q_NB103_109, Q_NB109_103, Q_NB104_109, Q_NB109_104, Q_BK110, Q_GW110, Q_GE110, Q_NB103_110, Q_NB110_103, Q_NB104_110, Q_NB110_104, Q_BK109_e6, Q_BK110_e7, Q_X4_, Q_X5_⟩ hb_ hon hoff
      refine ⟨_, rfl, fun K hK => ?_⟩
      have e2 : a.tmps[2]? = some (.pointer (some ⟨gb103, 0, none⟩)) := by rw [ha]; exact (putSel_off rfl).trans rfl
      replace ha := Aside0.mk ha
      have BK103 := Aside0.mk Q_BK103
      have BK104 := Aside0.mk Q_BK104
      have HB := Aside0.mk Q_HB
      have hc0_ : w'.cell? ⟨gb103, 0, none⟩ = some (.int .i64 a0_0) := (blk_cell BK103.out 0).trans rfl
      have hc1_ : w'.cell? ⟨gb103, 1, none⟩ = some (.int .i64 a0_1) := (blk_cell BK103.out 1).trans rfl
      refine value_ (w1 := w') (v := .agg #[.int .i64 a0_0, .int .i64 a0_1]) (by rfl) rfl ?_ ?_
      ·go_simp
       (try simp only [i64_w])
       try rfl
      refine hK.out _ _ ⟨gb109, gb110, m4_, m5_, (by rw [ha.out]; exact putSel_upk 0 hb_ rfl rfl rfl), Q_BK103, Q_BK104, Q_HB, Q_NB110_109, Q_NB109_110, Q_BK109, Q_GW109, Q_GE109, Q_NB103_109, Q_NB109_103, Q_NB104_109, Q_NB109_104, Q_BK110, Q_GW110, Q_GE110, Q_NB103_110, Q_NB110_103, Q_NB104_110, Q_NB110_104, fun h0_ => absurd ((hoff 6 (by kernel_rfl)).symm.trans h0_) (by decide), fun h0_ => absurd ((hoff 7 (by kernel_rfl)).symm.trans h0_) (by decide), Q_X4_, Q_X5_⟩
     refine steps_cons ?_ ?_
     ·rintro b a w' ⟨gb109, gb110, m4_, m5_, ha, Q_BK103, Q_BK104, Q_HB, Q_NB110_109, Q_NB109_110, Q_BK109, Q_GW109, Q_GE109, Q_NB103_109, Q_NB109_103, Q_NB104_109, Q_NB109_104, Q_BK110, Q_GW110, Q_GE110, Q_NB103_110, Q_NB110_103, Q_NB104_110, Q_NB110_104, Q_BK109_e6, Q_BK110_e7, Q_X4_, Q_X5_⟩ hb_ hon hoff
      refine ⟨_, rfl, fun K hK => ?_⟩
      have e7 : a.tmps[7]? = some (.agg #[.int .i64 a0_0, .int .i64 a0_1]) := by rw [ha]; exact putSel_on (e := (0, 7, .agg #[.int .i64 a0_0, .int .i64 a0_1])) 0 rfl rfl (hon 0 (by kernel_rfl)) rfl
      replace ha := Aside0.mk ha
      have BK103 := Aside0.mk Q_BK103
      have BK104 := Aside0.mk Q_BK104
      have HB := Aside0.mk Q_HB
      refine goes_ Tryd.func21 (by kernel_rfl) rfl #[.agg #[.int .i64 a0_0, .int .i64 a0_1]] (by rfl) rfl rfl (by first | (simp only [List.map_toArray, List.map_cons, List.map_nil, Act.eval, Array.getD_eq_getD_getElem?, Option.getD_some, e7]; done) | (simp only [List.map_toArray, List.map_cons, List.map_nil, Act.eval, Array.getD_eq_getD_getElem?, Option.getD_some, e7]; rfl)) ?_
      with_reducible refine (acceptor_pair.calls a0_0 a0_1 t105 t106 _ A3.out).mono ?_
      rintro e w30 ⟨rfl, hb⟩
      refine ⟨_, rfl, ?_⟩
      have n0_ := Aside0.mk (nb BK103.out hb)
      have n1_ := Aside0.mk (nb BK104.out hb)
      have n2_ := Aside0.mk (below_step bw hb)
      have z_BK109 := fun (h0_ : b 4 = true) (h1_ : b 6 = false) => (show w30.heap[gb109]? = some (.cells #[.int .i64 0, .int .i64 0] 59 (0, 0)) from by first | exact (blk_below (g := gb109) (o := .cells #[.int .i64 0, .int .i64 0] 59 (0, 0)) (by (with_reducible repeat (first | refine blk_drewN ?_ _ | refine blk_drew ?_ | refine blk_alloc ?_ _)); exact (Q_BK109 h0_ h1_)) hb))
      have z_BK110 := fun (h0_ : b 5 = true) (h1_ : b 7 = false) => (show w30.heap[gb110]? = some (.cells #[.int .i64 0, .int .i64 0] 59 (0, 0)) from by first | exact (blk_below (g := gb110) (o := .cells #[.int .i64 0, .int .i64 0] 59 (0, 0)) (by (with_reducible repeat (first | refine blk_drewN ?_ _ | refine blk_drew ?_ | refine blk_alloc ?_ _)); exact (Q_BK110 h0_ h1_)) hb))
      clear BK103
      clear BK104
      clear HB
      have BK103 := n0_
      have BK104 := n1_
      have HB := n2_
      clear n0_ n1_ n2_
      (try clear hb)
      (try clear hb2)
      (try clear hk)
      (try clear hi)
      refine hK.out _ _ ⟨gb109, gb110, m4_, m5_, (by rw [ha.out]; exact putSel_upk 1 hb_ rfl rfl rfl), (bk BK103.out), (bk BK104.out), bw, Q_NB110_109, Q_NB109_110, z_BK109, Q_GW109, Q_GE109, Q_NB103_109, Q_NB109_103, Q_NB104_109, Q_NB109_104, z_BK110, Q_GW110, Q_GE110, Q_NB103_110, Q_NB110_103, Q_NB104_110, Q_NB110_104, fun h0_ => absurd ((hoff 6 (by kernel_rfl)).symm.trans h0_) (by decide), fun h0_ => absurd ((hoff 7 (by kernel_rfl)).symm.trans h0_) (by decide), Q_X4_, Q_X5_⟩
     refine steps_cons ?_ ?_
     ·rintro b a w' ⟨gb109, gb110, m4_, m5_, ha, Q_BK103, Q_BK104, Q_HB, Q_NB110_109, Q_NB109_110, Q_BK109, Q_GW109, Q_GE109, Q_NB103_109, Q_NB109_103, Q_NB104_109, Q_NB109_104, Q_BK110, Q_GW110, Q_GE110, Q_NB103_110, Q_NB110_103, Q_NB104_110, Q_NB110_104, Q_BK109_e6, Q_BK110_e7, Q_X4_, Q_X5_⟩ hb_ hon hoff
      refine ⟨_, rfl, fun K hK => ?_⟩
      have e3 : a.tmps[3]? = some (.pointer (some ⟨gb104, 0, none⟩)) := by rw [ha]; exact (putSel_off rfl).trans rfl
      replace ha := Aside0.mk ha
      have BK103 := Aside0.mk Q_BK103
      have BK104 := Aside0.mk Q_BK104
      have HB := Aside0.mk Q_HB
      have hc0_ : w'.cell? ⟨gb104, 0, none⟩ = some (.int .i64 a1_0) := (blk_cell BK104.out 0).trans rfl
      have hc1_ : w'.cell? ⟨gb104, 1, none⟩ = some (.int .i64 a1_1) := (blk_cell BK104.out 1).trans rfl
      refine value_ (w1 := w') (v := .agg #[.int .i64 a1_0, .int .i64 a1_1]) (by rfl) rfl ?_ ?_
      ·go_simp
       (try simp only [i64_w])
       try rfl
      refine hK.out _ _ ⟨gb109, gb110, m4_, m5_, (by rw [ha.out]; exact putSel_upk 2 hb_ rfl rfl rfl), Q_BK103, Q_BK104, Q_HB, Q_NB110_109, Q_NB109_110, Q_BK109, Q_GW109, Q_GE109, Q_NB103_109, Q_NB109_103, Q_NB104_109, Q_NB109_104, Q_BK110, Q_GW110, Q_GE110, Q_NB103_110, Q_NB110_103, Q_NB104_110, Q_NB110_104, fun h0_ => absurd ((hoff 6 (by kernel_rfl)).symm.trans h0_) (by decide), fun h0_ => absurd ((hoff 7 (by kernel_rfl)).symm.trans h0_) (by decide), Q_X4_, Q_X5_⟩
     refine steps_cons ?_ ?_
     ·rintro b a w' ⟨gb109, gb110, m4_, m5_, ha, Q_BK103, Q_BK104, Q_HB, Q_NB110_109, Q_NB109_110, Q_BK109, Q_GW109, Q_GE109, Q_NB103_109, Q_NB109_103, Q_NB104_109, Q_NB109_104, Q_BK110, Q_GW110, Q_GE110, Q_NB103_110, Q_NB110_103, Q_NB104_110, Q_NB110_104, Q_BK109_e6, Q_BK110_e7, Q_X4_, Q_X5_⟩ hb_ hon hoff
      refine ⟨_, rfl, fun K hK => ?_⟩
      have e9 : a.tmps[9]? = some (.agg #[.int .i64 a1_0, .int .i64 a1_1]) := by rw [ha]; exact putSel_on (e := (2, 9, .agg #[.int .i64 a1_0, .int .i64 a1_1])) 2 rfl rfl (hon 2 (by kernel_rfl)) rfl
      replace ha := Aside0.mk ha
      have BK103 := Aside0.mk Q_BK103
      have BK104 := Aside0.mk Q_BK104
      have HB := Aside0.mk Q_HB
      refine goes_ Tryd.func21 (by kernel_rfl) rfl #[.agg #[.int .i64 a1_0, .int .i64 a1_1]] (by rfl) rfl rfl (by first | (simp only [List.map_toArray, List.map_cons, List.map_nil, Act.eval, Array.getD_eq_getD_getElem?, Option.getD_some, e9]; done) | (simp only [List.map_toArray, List.map_cons, List.map_nil, Act.eval, Array.getD_eq_getD_getElem?, Option.getD_some, e9]; rfl)) ?_
      with_reducible refine (acceptor_pair.calls a1_0 a1_1 t107 t108 _ A4.out).mono ?_
      rintro e w32 ⟨rfl, hb⟩
      refine ⟨_, rfl, ?_⟩
      have n0_ := Aside0.mk (nb BK103.out hb)
      have n1_ := Aside0.mk (nb BK104.out hb)
      have n2_ := Aside0.mk (below_step bw hb)
      have z_BK109 := fun (h0_ : b 4 = true) (h1_ : b 6 = false) => (show w32.heap[gb109]? = some (.cells #[.int .i64 0, .int .i64 0] 59 (0, 0)) from by first | exact (blk_below (g := gb109) (o := .cells #[.int .i64 0, .int .i64 0] 59 (0, 0)) (by (with_reducible repeat (first | refine blk_drewN ?_ _ | refine blk_drew ?_ | refine blk_alloc ?_ _)); exact (Q_BK109 h0_ h1_)) hb))
      have z_BK110 := fun (h0_ : b 5 = true) (h1_ : b 7 = false) => (show w32.heap[gb110]? = some (.cells #[.int .i64 0, .int .i64 0] 59 (0, 0)) from by first | exact (blk_below (g := gb110) (o := .cells #[.int .i64 0, .int .i64 0] 59 (0, 0)) (by (with_reducible repeat (first | refine blk_drewN ?_ _ | refine blk_drew ?_ | refine blk_alloc ?_ _)); exact (Q_BK110 h0_ h1_)) hb))
      clear BK103
      clear BK104
      clear HB
      have BK103 := n0_
      have BK104 := n1_
      have HB := n2_
      clear n0_ n1_ n2_
      (try clear hb)
      (try clear hb2)
      (try clear hk)
      (try clear hi)
      refine hK.out _ _ ⟨gb109, gb110, m4_, m5_, (by rw [ha.out]; exact putSel_upk 3 hb_ rfl rfl rfl), (bk BK103.out), (bk BK104.out), bw, Q_NB110_109, Q_NB109_110, z_BK109, Q_GW109, Q_GE109, Q_NB103_109, Q_NB109_103, Q_NB104_109, Q_NB109_104, z_BK110, Q_GW110, Q_GE110, Q_NB103_110, Q_NB110_103, Q_NB104_110, Q_NB110_104, fun h0_ => absurd ((hoff 6 (by kernel_rfl)).symm.trans h0_) (by decide), fun h0_ => absurd ((hoff 7 (by kernel_rfl)).symm.trans h0_) (by decide), Q_X4_, Q_X5_⟩
     refine steps_cons ?_ ?_
     ·rintro b a w' ⟨gb109, gb110, m4_, m5_, ha, Q_BK103, Q_BK104, Q_HB, Q_NB110_109, Q_NB109_110, Q_BK109, Q_GW109, Q_GE109, Q_NB103_109, Q_NB109_103, Q_NB104_109, Q_NB109_104, Q_BK110, Q_GW110, Q_GE110, Q_NB103_110, Q_NB110_103, Q_NB104_110, Q_NB110_104, Q_BK109_e6, Q_BK110_e7, Q_X4_, Q_X5_⟩ hb_ hon hoff
      refine ⟨_, rfl, fun K hK => ?_⟩
      replace ha := Aside0.mk ha
      have BK103 := Aside0.mk Q_BK103
      have BK104 := Aside0.mk Q_BK104
      have HB := Aside0.mk Q_HB
      refine box_step ?hg (N := 5) ?hd (cs := #[.int .i64 0, .int .i64 0]) (t := 59) ?hr ?_; (case hd => rfl); (case hg => rfl); (case hr => first | (go_simp; done) | (go_simp; rfl))
      intro gb109 hg w30 hbox hb
      have n0_ := Aside0.mk (nb BK103.out hb)
      have n1_ := Aside0.mk (nb BK104.out hb)
      have n2_ := Aside0.mk (below_step bw hb)
      have n3_ := Aside0.mk (hbox)
      have n4_ := Aside0.mk ((g1 hg bw : w.heap.size ≤ gb109))
      have n5_ := Aside0.mk ((g1 hg bw : w.heap.size ≤ gb109))
      have n6_ := Aside0.mk ((n1 hg BK103.out : gb103 ≠ gb109))
      have n7_ := Aside0.mk ((n2 hg BK103.out : gb109 ≠ gb103))
      have n8_ := Aside0.mk ((n1 hg BK104.out : gb104 ≠ gb109))
      have n9_ := Aside0.mk ((n2 hg BK104.out : gb109 ≠ gb104))
      have z_NB110_109 := fun (h0_ : up b 4 4 = true) (h1_ : up b 4 5 = true) => (show gb110 ≠ gb109 from ((by rw [hg]; exact Nat.ne_of_lt (blk_lt (g := gb110) (o := .cells #[.int .i64 0, .int .i64 0] 59 (0, 0)) (by (with_reducible repeat (first | refine blk_drewN ?_ _ | refine blk_drew ?_ | refine blk_alloc ?_ _)); (first | exact BK110.out | exact Q_BK110 (by first | exact h0_ | exact h1_ | exact (up_ne (by decide)).symm.trans h0_ | exact (up_ne (by decide)).symm.trans h1_) (hoff _ (by kernel_rfl))))) : gb110 ≠ gb109)))
      have z_NB109_110 := fun (h0_ : up b 4 4 = true) (h1_ : up b 4 5 = true) => (show gb109 ≠ gb110 from ((by rw [hg]; exact Nat.ne_of_gt (blk_lt (g := gb110) (o := .cells #[.int .i64 0, .int .i64 0] 59 (0, 0)) (by (with_reducible repeat (first | refine blk_drewN ?_ _ | refine blk_drew ?_ | refine blk_alloc ?_ _)); (first | exact BK110.out | exact Q_BK110 (by first | exact h0_ | exact h1_ | exact (up_ne (by decide)).symm.trans h0_ | exact (up_ne (by decide)).symm.trans h1_) (hoff _ (by kernel_rfl))))) : gb109 ≠ gb110)))
      have z_BK110 := fun (h0_ : b 5 = true) (h1_ : b 7 = false) => (show w30.heap[gb110]? = some (.cells #[.int .i64 0, .int .i64 0] 59 (0, 0)) from by first | exact (blk_below (g := gb110) (o := .cells #[.int .i64 0, .int .i64 0] 59 (0, 0)) (by (with_reducible repeat (first | refine blk_drewN ?_ _ | refine blk_drew ?_ | refine blk_alloc ?_ _)); exact (Q_BK110 h0_ h1_)) hb))
      clear BK103
      clear BK104
      clear HB
      have BK103 := n0_
      have BK104 := n1_
      have HB := n2_
      have BK109 := n3_
      have GW109 := n4_
      have GE109 := n5_
      have NB103_109 := n6_
      have NB109_103 := n7_
      have NB104_109 := n8_
      have NB109_104 := n9_
      clear n0_ n1_ n2_ n3_ n4_ n5_ n6_ n7_ n8_ n9_
      clear hb hbox hg
      refine hK.out _ _ ⟨gb109, gb110, (.pointer (some ⟨gb109, 0, none⟩)), m5_, (by rw [ha.out]; exact putSel_upk 4 hb_ rfl rfl rfl), (bk BK103.out), (bk BK104.out), bw, z_NB110_109, z_NB109_110, fun _ _ => (bk BK109.out), fun _ => GW109.out, fun _ => GE109.out, fun _ => NB103_109.out, fun _ => NB109_103.out, fun _ => NB104_109.out, fun _ => NB109_104.out, z_BK110, Q_GW110, Q_GE110, Q_NB103_110, Q_NB110_103, Q_NB104_110, Q_NB110_104, fun h0_ => absurd ((hoff 6 (by kernel_rfl)).symm.trans h0_) (by decide), fun h0_ => absurd ((hoff 7 (by kernel_rfl)).symm.trans h0_) (by decide), fun _ => rfl, Q_X5_⟩
     refine steps_cons ?_ ?_
     ·rintro b a w' ⟨gb109, gb110, m4_, m5_, ha, Q_BK103, Q_BK104, Q_HB, Q_NB110_109, Q_NB109_110, Q_BK109, Q_GW109, Q_GE109, Q_NB103_109, Q_NB109_103, Q_NB104_109, Q_NB109_104, Q_BK110, Q_GW110, Q_GE110, Q_NB103_110, Q_NB110_103, Q_NB104_110, Q_NB110_104, Q_BK109_e6, Q_BK110_e7, Q_X4_, Q_X5_⟩ hb_ hon hoff
      refine ⟨_, rfl, fun K hK => ?_⟩
      replace ha := Aside0.mk ha
      have BK103 := Aside0.mk Q_BK103
      have BK104 := Aside0.mk Q_BK104
      have HB := Aside0.mk Q_HB
      refine box_step ?hg (N := 6) ?hd (cs := #[.int .i64 0, .int .i64 0]) (t := 59) ?hr ?_; (case hd => rfl); (case hg => rfl); (case hr => first | (go_simp; done) | (go_simp; rfl))
      intro gb110 hg w30 hbox hb
      have n0_ := Aside0.mk (nb BK103.out hb)
      have n1_ := Aside0.mk (nb BK104.out hb)
      have n2_ := Aside0.mk (below_step bw hb)
      have n3_ := Aside0.mk (hbox)
      have n4_ := Aside0.mk ((g1 hg bw : w.heap.size ≤ gb110))
      have n5_ := Aside0.mk ((g1 hg bw : w.heap.size ≤ gb110))
      have n6_ := Aside0.mk ((n1 hg BK103.out : gb103 ≠ gb110))
      have n7_ := Aside0.mk ((n2 hg BK103.out : gb110 ≠ gb103))
      have n8_ := Aside0.mk ((n1 hg BK104.out : gb104 ≠ gb110))
      have n9_ := Aside0.mk ((n2 hg BK104.out : gb110 ≠ gb104))
      have z_NB110_109 := fun (h0_ : up b 5 4 = true) (h1_ : up b 5 5 = true) => (show gb110 ≠ gb109 from ((by rw [hg]; exact Nat.ne_of_gt (blk_lt (g := gb109) (o := .cells #[.int .i64 0, .int .i64 0] 59 (0, 0)) (by (with_reducible repeat (first | refine blk_drewN ?_ _ | refine blk_drew ?_ | refine blk_alloc ?_ _)); (first | exact BK109.out | exact Q_BK109 (by first | exact h0_ | exact h1_ | exact (up_ne (by decide)).symm.trans h0_ | exact (up_ne (by decide)).symm.trans h1_) (hoff _ (by kernel_rfl))))) : gb110 ≠ gb109)))
      have z_NB109_110 := fun (h0_ : up b 5 4 = true) (h1_ : up b 5 5 = true) => (show gb109 ≠ gb110 from ((by rw [hg]; exact Nat.ne_of_lt (blk_lt (g := gb109) (o := .cells #[.int .i64 0, .int .i64 0] 59 (0, 0)) (by (with_reducible repeat (first | refine blk_drewN ?_ _ | refine blk_drew ?_ | refine blk_alloc ?_ _)); (first | exact BK109.out | exact Q_BK109 (by first | exact h0_ | exact h1_ | exact (up_ne (by decide)).symm.trans h0_ | exact (up_ne (by decide)).symm.trans h1_) (hoff _ (by kernel_rfl))))) : gb109 ≠ gb110)))
      have z_BK109 := fun (h0_ : b 4 = true) (h1_ : b 6 = false) => (show w30.heap[gb109]? = some (.cells #[.int .i64 0, .int .i64 0] 59 (0, 0)) from by first | exact (blk_below (g := gb109) (o := .cells #[.int .i64 0, .int .i64 0] 59 (0, 0)) (by (with_reducible repeat (first | refine blk_drewN ?_ _ | refine blk_drew ?_ | refine blk_alloc ?_ _)); exact (Q_BK109 h0_ h1_)) hb))
      clear BK103
      clear BK104
      clear HB
      have BK103 := n0_
      have BK104 := n1_
      have HB := n2_
      have BK110 := n3_
      have GW110 := n4_
      have GE110 := n5_
      have NB103_110 := n6_
      have NB110_103 := n7_
      have NB104_110 := n8_
      have NB110_104 := n9_
      clear n0_ n1_ n2_ n3_ n4_ n5_ n6_ n7_ n8_ n9_
      clear hb hbox hg
      refine hK.out _ _ ⟨gb109, gb110, m4_, (.pointer (some ⟨gb110, 0, none⟩)), (by rw [ha.out]; exact putSel_upk 5 hb_ rfl rfl rfl), (bk BK103.out), (bk BK104.out), bw, z_NB110_109, z_NB109_110, z_BK109, Q_GW109, Q_GE109, Q_NB103_109, Q_NB109_103, Q_NB104_109, Q_NB109_104, fun _ _ => (bk BK110.out), fun _ => GW110.out, fun _ => GE110.out, fun _ => NB103_110.out, fun _ => NB110_103.out, fun _ => NB104_110.out, fun _ => NB110_104.out, fun h0_ => absurd ((hoff 6 (by kernel_rfl)).symm.trans h0_) (by decide), fun h0_ => absurd ((hoff 7 (by kernel_rfl)).symm.trans h0_) (by decide), Q_X4_, fun _ => rfl⟩
     refine steps_cons ?_ ?_
     ·rintro b a w' ⟨gb109, gb110, m4_, m5_, ha, Q_BK103, Q_BK104, Q_HB, Q_NB110_109, Q_NB109_110, Q_BK109, Q_GW109, Q_GE109, Q_NB103_109, Q_NB109_103, Q_NB104_109, Q_NB109_104, Q_BK110, Q_GW110, Q_GE110, Q_NB103_110, Q_NB110_103, Q_NB104_110, Q_NB110_104, Q_BK109_e6, Q_BK110_e7, Q_X4_, Q_X5_⟩ hb_ hon hoff
      refine ⟨_, rfl, fun K hK => ?_⟩
      have e5 : a.tmps[5]? = some (m4_) := by rw [ha]; exact putSel_on (e := (4, 5, m4_)) 4 rfl rfl (hon 4 (by kernel_rfl)) rfl
      rw [Q_X4_ (hon 4 (by kernel_rfl))] at e5
      have e8 : a.tmps[8]? = some (.agg #[.int .i64 t105, .int .i64 t106]) := by rw [ha]; exact putSel_on (e := (1, 8, .agg #[.int .i64 t105, .int .i64 t106])) 1 rfl rfl (hon 1 (by kernel_rfl)) rfl
      replace ha := Aside0.mk ha
      have BK103 := Aside0.mk Q_BK103
      have BK104 := Aside0.mk Q_BK104
      have HB := Aside0.mk Q_HB
      have NB110_109 := Aside0.mk (Q_NB110_109 (hon 4 (by kernel_rfl)) (hon 5 (by kernel_rfl)))
      have NB109_110 := Aside0.mk (Q_NB109_110 (hon 4 (by kernel_rfl)) (hon 5 (by kernel_rfl)))
      have BK109 := Aside0.mk (Q_BK109 (hon 4 (by kernel_rfl)) hb_)
      have GW109 := Aside0.mk (Q_GW109 (hon 4 (by kernel_rfl)))
      have GE109 := Aside0.mk (Q_GE109 (hon 4 (by kernel_rfl)))
      have NB103_109 := Aside0.mk (Q_NB103_109 (hon 4 (by kernel_rfl)))
      have NB109_103 := Aside0.mk (Q_NB109_103 (hon 4 (by kernel_rfl)))
      have NB104_109 := Aside0.mk (Q_NB104_109 (hon 4 (by kernel_rfl)))
      have NB109_104 := Aside0.mk (Q_NB109_104 (hon 4 (by kernel_rfl)))
      have BK110 := Aside0.mk (Q_BK110 (hon 5 (by kernel_rfl)) (hoff 7 (by kernel_rfl)))
      have GW110 := Aside0.mk (Q_GW110 (hon 5 (by kernel_rfl)))
      have GE110 := Aside0.mk (Q_GE110 (hon 5 (by kernel_rfl)))
      have NB103_110 := Aside0.mk (Q_NB103_110 (hon 5 (by kernel_rfl)))
      have NB110_103 := Aside0.mk (Q_NB110_103 (hon 5 (by kernel_rfl)))
      have NB104_110 := Aside0.mk (Q_NB104_110 (hon 5 (by kernel_rfl)))
      have NB110_104 := Aside0.mk (Q_NB110_104 (hon 5 (by kernel_rfl)))
      have hs35 : w'.cell? ⟨gb109, 0, none⟩ = some (.int .i64 0) := (blk_cell BK109.out 0).trans rfl
      have hfs35 := blk_frozen BK109.out 0
      have hns35_0 := NB103_109.out
      have hns35_1 := NB104_109.out
      have hns35_3 := NB110_109.out
      have hms35_0 := NB109_103.out
      have hms35_1 := NB109_104.out
      have hms35_3 := NB109_110.out
      have hs36 : w'.cell? ⟨gb109, 1, none⟩ = some (.int .i64 0) := (blk_cell BK109.out 1).trans rfl
      have hfs36 := blk_frozen BK109.out 1
      have hns36_0 := NB103_109.out
      have hns36_1 := NB104_109.out
      have hns36_3 := NB110_109.out
      have hms36_0 := NB109_103.out
      have hms36_1 := NB109_104.out
      have hms36_3 := NB109_110.out
      refine skip_ (w1 := ?_) (by rfl) rfl ?_ ?_
      rotate_left
      ·go_simp
       rfl
      refine hK.out _ _ ⟨gb109, gb110, m4_, m5_, (by rw [ha.out]; exact putSel_none (v := undef) rfl), (by (with_reducible repeat (first | refine blk_drewN ?_ _ | refine blk_drew ?_ | refine blk_alloc ?_ _ | refine blk_far ?_ NB103_109.out _)); exact BK103.out), (by (with_reducible repeat (first | refine blk_drewN ?_ _ | refine blk_drew ?_ | refine blk_alloc ?_ _ | refine blk_far ?_ NB104_109.out _)); exact BK104.out), bw, fun _ _ => NB110_109.out, fun _ _ => NB109_110.out, fun _ h1_ => absurd ((up_self b 6).symm.trans h1_) (by decide), fun _ => GW109.out, fun _ => GE109.out, fun _ => NB103_109.out, fun _ => NB109_103.out, fun _ => NB104_109.out, fun _ => NB109_104.out, fun _ _ => (by (with_reducible repeat (first | refine blk_drewN ?_ _ | refine blk_drew ?_ | refine blk_alloc ?_ _ | refine blk_far ?_ NB110_109.out _)); exact BK110.out), fun _ => GW110.out, fun _ => GE110.out, fun _ => NB103_110.out, fun _ => NB110_103.out, fun _ => NB104_110.out, fun _ => NB110_104.out, fun _ => (by (with_reducible repeat (first | refine blk_drewN ?_ _ | refine blk_drew ?_ | refine blk_alloc ?_ _)); refine blk_put (cs := #[.int .i64 t105, .int .i64 0]) ?_ 1 _ rfl; (with_reducible repeat (first | refine blk_drewN ?_ _ | refine blk_drew ?_ | refine blk_alloc ?_ _)); refine blk_put (cs := #[.int .i64 0, .int .i64 0]) ?_ 0 _ rfl; (with_reducible repeat (first | refine blk_drewN ?_ _ | refine blk_drew ?_ | refine blk_alloc ?_ _)); exact BK109.out), fun h0_ => absurd ((hoff 7 (by kernel_rfl)).symm.trans h0_) (by decide), Q_X4_, Q_X5_⟩
     refine steps_cons ?_ ?_
     ·rintro b a w' ⟨gb109, gb110, m4_, m5_, ha, Q_BK103, Q_BK104, Q_HB, Q_NB110_109, Q_NB109_110, Q_BK109, Q_GW109, Q_GE109, Q_NB103_109, Q_NB109_103, Q_NB104_109, Q_NB109_104, Q_BK110, Q_GW110, Q_GE110, Q_NB103_110, Q_NB110_103, Q_NB104_110, Q_NB110_104, Q_BK109_e6, Q_BK110_e7, Q_X4_, Q_X5_⟩ hb_ hon hoff
      refine ⟨_, rfl, fun K hK => ?_⟩
      have e6 : a.tmps[6]? = some (m5_) := by rw [ha]; exact putSel_on (e := (5, 6, m5_)) 5 rfl rfl (hon 5 (by kernel_rfl)) rfl
      rw [Q_X5_ (hon 5 (by kernel_rfl))] at e6
      have e10 : a.tmps[10]? = some (.agg #[.int .i64 t107, .int .i64 t108]) := by rw [ha]; exact putSel_on (e := (3, 10, .agg #[.int .i64 t107, .int .i64 t108])) 3 rfl rfl (hon 3 (by kernel_rfl)) rfl
      replace ha := Aside0.mk ha
      have BK103 := Aside0.mk Q_BK103
      have BK104 := Aside0.mk Q_BK104
      have HB := Aside0.mk Q_HB
      have NB110_109 := Aside0.mk (Q_NB110_109 (hon 4 (by kernel_rfl)) (hon 5 (by kernel_rfl)))
      have NB109_110 := Aside0.mk (Q_NB109_110 (hon 4 (by kernel_rfl)) (hon 5 (by kernel_rfl)))
      have GW109 := Aside0.mk (Q_GW109 (hon 4 (by kernel_rfl)))
      have GE109 := Aside0.mk (Q_GE109 (hon 4 (by kernel_rfl)))
      have NB103_109 := Aside0.mk (Q_NB103_109 (hon 4 (by kernel_rfl)))
      have NB109_103 := Aside0.mk (Q_NB109_103 (hon 4 (by kernel_rfl)))
      have NB104_109 := Aside0.mk (Q_NB104_109 (hon 4 (by kernel_rfl)))
      have NB109_104 := Aside0.mk (Q_NB109_104 (hon 4 (by kernel_rfl)))
      have BK110 := Aside0.mk (Q_BK110 (hon 5 (by kernel_rfl)) hb_)
      have GW110 := Aside0.mk (Q_GW110 (hon 5 (by kernel_rfl)))
      have GE110 := Aside0.mk (Q_GE110 (hon 5 (by kernel_rfl)))
      have NB103_110 := Aside0.mk (Q_NB103_110 (hon 5 (by kernel_rfl)))
      have NB110_103 := Aside0.mk (Q_NB110_103 (hon 5 (by kernel_rfl)))
      have NB104_110 := Aside0.mk (Q_NB104_110 (hon 5 (by kernel_rfl)))
      have NB110_104 := Aside0.mk (Q_NB110_104 (hon 5 (by kernel_rfl)))
      have BK109 := Aside0.mk (Q_BK109_e6 (hon 6 (by kernel_rfl)))
      have hs37 : w'.cell? ⟨gb110, 0, none⟩ = some (.int .i64 0) := (blk_cell BK110.out 0).trans rfl
      have hfs37 := blk_frozen BK110.out 0
      have hns37_0 := NB103_110.out
      have hns37_1 := NB104_110.out
      have hns37_2 := NB109_110.out
      have hms37_0 := NB110_103.out
      have hms37_1 := NB110_104.out
      have hms37_2 := NB110_109.out
      have hs38 : w'.cell? ⟨gb110, 1, none⟩ = some (.int .i64 0) := (blk_cell BK110.out 1).trans rfl
      have hfs38 := blk_frozen BK110.out 1
      have hns38_0 := NB103_110.out
      have hns38_1 := NB104_110.out
      have hns38_2 := NB109_110.out
      have hms38_0 := NB110_103.out
      have hms38_1 := NB110_104.out
      have hms38_2 := NB110_109.out
      refine skip_ (w1 := ?_) (by rfl) rfl ?_ ?_
      rotate_left
      ·go_simp
       rfl
      refine hK.out _ _ ⟨gb109, gb110, m4_, m5_, (by rw [ha.out]; exact putSel_none (v := undef) rfl), (by (with_reducible repeat (first | refine blk_drewN ?_ _ | refine blk_drew ?_ | refine blk_alloc ?_ _ | refine blk_far ?_ NB103_110.out _)); exact BK103.out), (by (with_reducible repeat (first | refine blk_drewN ?_ _ | refine blk_drew ?_ | refine blk_alloc ?_ _ | refine blk_far ?_ NB104_110.out _)); exact BK104.out), bw, fun _ _ => NB110_109.out, fun _ _ => NB109_110.out, fun _ h1_ => absurd ((hon 6 (by kernel_rfl)).symm.trans h1_) (by decide), fun _ => GW109.out, fun _ => GE109.out, fun _ => NB103_109.out, fun _ => NB109_103.out, fun _ => NB104_109.out, fun _ => NB109_104.out, fun _ h1_ => absurd ((up_self b 7).symm.trans h1_) (by decide), fun _ => GW110.out, fun _ => GE110.out, fun _ => NB103_110.out, fun _ => NB110_103.out, fun _ => NB104_110.out, fun _ => NB110_104.out, fun _ => (by (with_reducible repeat (first | refine blk_drewN ?_ _ | refine blk_drew ?_ | refine blk_alloc ?_ _ | refine blk_far ?_ NB109_110.out _)); exact BK109.out), fun _ => (by (with_reducible repeat (first | refine blk_drewN ?_ _ | refine blk_drew ?_ | refine blk_alloc ?_ _)); refine blk_put (cs := #[.int .i64 t107, .int .i64 0]) ?_ 1 _ rfl; (with_reducible repeat (first | refine blk_drewN ?_ _ | refine blk_drew ?_ | refine blk_alloc ?_ _)); refine blk_put (cs := #[.int .i64 0, .int .i64 0]) ?_ 0 _ rfl; (with_reducible repeat (first | refine blk_drewN ?_ _ | refine blk_drew ?_ | refine blk_alloc ?_ _)); exact BK110.out), Q_X4_, Q_X5_⟩
     exact steps_nil
    rintro b a w38 hall ⟨gb109, gb110, m4_, m5_, ha, Q_BK103, Q_BK104, Q_HB, Q_NB110_109, Q_NB109_110, Q_BK109, Q_GW109, Q_GE109, Q_NB103_109, Q_NB109_103, Q_NB104_109, Q_NB109_104, Q_BK110, Q_GW110, Q_GE110, Q_NB103_110, Q_NB110_103, Q_NB104_110, Q_NB110_104, Q_BK109_e6, Q_BK110_e7, Q_X4_, Q_X5_⟩
    clear BK103 BK104 HB
    have hb0_ := hall 0 (by kernel_rfl)
    have hb1_ := hall 1 (by kernel_rfl)
    have hb2_ := hall 2 (by kernel_rfl)
    have hb3_ := hall 3 (by kernel_rfl)
    have hb4_ := hall 4 (by kernel_rfl)
    have hb5_ := hall 5 (by kernel_rfl)
    have hb6_ := hall 6 (by kernel_rfl)
    have hb7_ := hall 7 (by kernel_rfl)
    subst ha
    obtain rfl := Q_X4_ hb4_
    obtain rfl := Q_X5_ hb5_
    simp only [putSel, hb0_, hb1_, hb2_, hb3_, hb4_, hb5_, hb6_, hb7_, if_true, Act.put, sl1, sl2, sl3]
    have BK103 := Aside0.mk Q_BK103
    clear Q_BK103
    have BK104 := Aside0.mk Q_BK104
    clear Q_BK104
    have HB := Aside0.mk Q_HB
    clear Q_HB
    have NB110_109 := Aside0.mk (Q_NB110_109 hb4_ hb5_)
    clear Q_NB110_109
    have NB109_110 := Aside0.mk (Q_NB109_110 hb4_ hb5_)
    clear Q_NB109_110
    clear Q_BK109
    have GW109 := Aside0.mk (Q_GW109 hb4_)
    clear Q_GW109
    have GE109 := Aside0.mk (Q_GE109 hb4_)
    clear Q_GE109
    have NB103_109 := Aside0.mk (Q_NB103_109 hb4_)
    clear Q_NB103_109
    have NB109_103 := Aside0.mk (Q_NB109_103 hb4_)
    clear Q_NB109_103
    have NB104_109 := Aside0.mk (Q_NB104_109 hb4_)
    clear Q_NB104_109
    have NB109_104 := Aside0.mk (Q_NB109_104 hb4_)
    clear Q_NB109_104
    clear Q_BK110
    have GW110 := Aside0.mk (Q_GW110 hb5_)
    clear Q_GW110
    have GE110 := Aside0.mk (Q_GE110 hb5_)
    clear Q_GE110
    have NB103_110 := Aside0.mk (Q_NB103_110 hb5_)
    clear Q_NB103_110
    have NB110_103 := Aside0.mk (Q_NB110_103 hb5_)
    clear Q_NB110_103
    have NB104_110 := Aside0.mk (Q_NB104_110 hb5_)
    clear Q_NB104_110
    have NB110_104 := Aside0.mk (Q_NB110_104 hb5_)
    clear Q_NB110_104
    have BK109 := Aside0.mk (Q_BK109_e6 hb6_)
    clear Q_BK109_e6
    have BK110 := Aside0.mk (Q_BK110_e7 hb7_)
    clear Q_BK110_e7
    clear hall hb0_ hb1_ hb2_ hb3_ hb4_ hb5_ hb6_ hb7_
    have hnb39 := NB109_103.out
    have hnc39 := NB103_109.out
    have hnb40 := NB109_104.out
    have hnc40 := NB104_109.out
    have hnb41 := NB109_110.out
    have hnc41 := NB110_109.out
    have hcz42_0 := bc2_0 BK109.out
    have hcz42_1 := bc2_1 BK109.out
    have hfz42_0 := blk_frozen BK109.out 0
    have hfz42_1 := blk_frozen BK109.out 1
    have hnb43 := NB110_103.out
    have hnc43 := NB103_110.out
    have hnb44 := NB110_104.out
    have hnc44 := NB104_110.out
    have hcz45_0 := bc2_0 BK110.out
    have hcz45_1 := bc2_1 BK110.out
    have hfz45_0 := blk_frozen BK110.out 0
    have hfz45_1 := blk_frozen BK110.out 1
    try go_wp2
    go_ret
    exact ⟨er, bw⟩
   ·rw [if_neg c26] at H
    have c26b0 : (t105 == t107) = false := beq_eq_false_iff_ne.mpr c26
    (try simp only [c26b0, Bool.not_true, Bool.not_false, Bool.false_or, Bool.true_or, Bool.true_and, Bool.false_and, Bool.true_beq, Bool.false_beq, beq_true, beq_false] at c5b0)
    have c26b1 : (t105 != t107) = true := bne_iff_ne.mpr c26
    obtain rfl := Option.some.inj H
    go_enter Tryd.func13, Tryd.ntmps13
    try go_wp2_with (first | ((with_reducible refine gate_dst (N := 2) rfl ?_); refine box_event ?hg (N := 2) ?hd (cs := #[.int .i64 a0_0, .int .i64 a0_1]) (t := 23) ?hr ?_; (case hd => rfl); (case hg => rfl); (case hr => first | (go_simp; done) | (go_simp; rfl)); intro gb103 hg w46 hbox hb; have n0_ := Aside0.mk (below_step bw hb); have n1_ := Aside0.mk (hbox); have n2_ := Aside0.mk ((g1 hg bw : w.heap.size ≤ gb103)); have n3_ := Aside0.mk ((g1 hg bw : w.heap.size ≤ gb103)); clear HB; have HB := n0_; have BK103 := n1_; have GW103 := n2_; have GE103 := n3_; clear n0_ n1_ n2_ n3_; clear hb hbox hg) | ((with_reducible refine gate_dst (N := 3) rfl ?_); refine box_event ?hg (N := 3) ?hd (cs := #[.int .i64 a1_0, .int .i64 a1_1]) (t := 23) ?hr ?_; (case hd => rfl); (case hg => rfl); (case hr => first | (go_simp; done) | (go_simp; rfl)); intro gb104 hg w47 hbox hb; have n0_ := Aside0.mk (nb BK103.out hb); have n1_ := Aside0.mk (below_step bw hb); have n2_ := Aside0.mk (hbox); have n3_ := Aside0.mk ((g1 hg bw : w.heap.size ≤ gb104)); have n4_ := Aside0.mk ((g1 hg bw : w.heap.size ≤ gb104)); have n5_ := Aside0.mk ((n1 hg BK103.out : gb103 ≠ gb104)); have n6_ := Aside0.mk ((n2 hg BK103.out : gb104 ≠ gb103)); clear BK103; clear HB; have BK103 := n0_; have HB := n1_; have BK104 := n2_; have GW104 := n3_; have GE104 := n4_; have NB103_104 := n5_; have NB104_103 := n6_; clear n0_ n1_ n2_ n3_ n4_ n5_ n6_; clear hb hbox hg))
    have n0_ := Aside0.mk (blk_drew BK103.out)
    have n1_ := Aside0.mk (blk_drew BK104.out)
    have n2_ := Aside0.mk (below_drew1 HB.out)
    clear BK103
    clear BK104
    clear HB
    have BK103 := n0_
    have BK104 := n1_
    have HB := n2_
    clear n0_ n1_ n2_
    refine start_ (n := 8) (S := fun w' => True) (ds := []) #[false, false, false, false, false, false, false, false] (by kernel_rfl) rfl rfl trivial (fun hHeld => ?_); refine with_tabW acceptor_Less.tab1 acceptor_Less.bits1 (fun HT_ HW_ => ?_)
    generalize w47.drew = w48 at BK103 BK104 HB hHeld ⊢
    refine inv_at [0, 1, 2, 3, 4, 5, 6, 7] (fun a0_ b a w' => ∃ (gb109 : Nat) (gb110 : Nat) (m4_ : Value) (m5_ : Value), a = putSel a0_ b [(0, 7, .agg #[.int .i64 a0_0, .int .i64 a0_1]), (1, 8, .agg #[.int .i64 t105, .int .i64 t106]), (2, 9, .agg #[.int .i64 a1_0, .int .i64 a1_1]), (3, 10, .agg #[.int .i64 t107, .int .i64 t108]), (4, 5, m4_), (5, 6, m5_)] ∧ (w'.heap[gb103]? = some (.cells #[.int .i64 a0_0, .int .i64 a0_1] 23 (0, 0))) ∧ (w'.heap[gb104]? = some (.cells #[.int .i64 a1_0, .int .i64 a1_1] 23 (0, 0))) ∧ (Below w.heap.size w w') ∧ (b 4 = true → b 5 = true → gb110 ≠ gb109) ∧ (b 4 = true → b 5 = true → gb109 ≠ gb110) ∧ (b 4 = true → b 6 = false → w'.heap[gb109]? = some (.cells #[.int .i64 0, .int .i64 0] 59 (0, 0))) ∧ (b 4 = true → w.heap.size ≤ gb109) ∧ (b 4 = true → w.heap.size ≤ gb109) ∧ (b 4 = true → gb103 ≠ gb109) ∧ (b 4 = true → gb109 ≠ gb103) ∧ (b 4 = true → gb104 ≠ gb109) ∧ (b 4 = true → gb109 ≠ gb104) ∧ (b 5 = true → b 7 = false → w'.heap[gb110]? = some (.cells #[.int .i64 0, .int .i64 0] 59 (0, 0))) ∧ (b 5 = true → w.heap.size ≤ gb110) ∧ (b 5 = true → w.heap.size ≤ gb110) ∧ (b 5 = true → gb103 ≠ gb110) ∧ (b 5 = true → gb110 ≠ gb103) ∧ (b 5 = true → gb104 ≠ gb110) ∧ (b 5 = true → gb110 ≠ gb104) ∧ (b 6 = true → w'.heap[gb109]? = some (.cells #[.int .i64 t105, .int .i64 t106] 59 (0, 0))) ∧ (b 7 = true → w'.heap[gb110]? = some (.cells #[.int .i64 t107, .int .i64 t108] 59 (0, 0))) ∧ (b 4 = true → (m4_ : Value) = .pointer (some ⟨gb109, 0, none⟩)) ∧ (b 5 = true → (m5_ : Value) = .pointer (some ⟨gb110, 0, none⟩))) HT_.out HW_.out (by kernel_rfl) (by kernel_rfl) ?_ ?_ ?_
    ·exact ⟨0, 0, .bool false, .bool false, by simp only [putSel, Bool.false_eq_true, if_false], BK103.out, BK104.out, HB.out, fun h_ => absurd h_ (by decide), fun h_ => absurd h_ (by decide), fun h_ => absurd h_ (by decide), fun h_ => absurd h_ (by decide), fun h_ => absurd h_ (by decide), fun h_ => absurd h_ (by decide), fun h_ => absurd h_ (by decide), fun h_ => absurd h_ (by decide), fun h_ => absurd h_ (by decide), fun h_ => absurd h_ (by decide), fun h_ => absurd h_ (by decide), fun h_ => absurd h_ (by decide), fun h_ => absurd h_ (by decide), fun h_ => absurd h_ (by decide), fun h_ => absurd h_ (by decide), fun h_ => absurd h_ (by decide), fun h_ => absurd h_ (by decide), fun h_ => absurd h_ (by decide), fun h_ => absurd h_ (by decide), fun h_ => absurd h_ (by decide)⟩
    ·skip
     clear BK103 BK104 HB
     refine steps_cons ?_ ?_
     ·rintro b a w' ⟨gb109, gb110, m4_, m5_, ha, Q_BK103, Q_BK104, Q_HB, Q_NB110_109, Q_NB109_110, Q_BK109, Q_GW109, Q_GE109, Q_NB103_109, Q_NB109_103, Q_NB104_109, Q_NB109_104, Q_BK110, Q_GW110, Q_GE110, Q_NB103_110, Q_NB110_103, Q_NB104_110, Q_NB110_104, Q_BK109_e6, Q_BK110_e7, Q_X4_, Q_X5_⟩ hb_ hon hoff
      refine ⟨_, rfl, fun K hK => ?_⟩
      have e2 : a.tmps[2]? = some (.pointer (some ⟨gb103, 0, none⟩)) := by rw [ha]; exact (putSel_off rfl).trans rfl
      replace ha := Aside0.mk ha
      have BK103 := Aside0.mk Q_BK103
      have BK104 := Aside0.mk Q_BK104
      have HB := Aside0.mk Q_HB
      have hc0_ : w'.cell? ⟨gb103, 0, none⟩ = some (.int .i64 a0_0) := (blk_cell BK103.out 0).trans rfl
      have hc1_ : w'.cell? ⟨gb103, 1, none⟩ = some (.int .i64 a0_1) := (blk_cell BK103.out 1).trans rfl
      refine value_ (w1 := w') (v := .agg #[.int .i64 a0_0, .int .i64 a0_1]) (by rfl) rfl ?_ ?_
      ·go_simp
       (try simp only [i64_w])
       try rfl
      refine hK.out _ _ ⟨gb109, gb110, m4_, m5_, (by rw [ha.out]; exact putSel_upk 0 hb_ rfl rfl rfl), Q_BK103, Q_BK104, Q_HB, Q_NB110_109, Q_NB109_110, Q_BK109, Q_GW109, Q_GE109, Q_NB103_109, Q_NB109_103, Q_NB104_109, Q_NB109_104, Q_BK110, Q_GW110, Q_GE110, Q_NB103_110, Q_NB110_103, Q_NB104_110, Q_NB110_104, fun h0_ => absurd ((hoff 6 (by kernel_rfl)).symm.trans h0_) (by decide), fun h0_ => absurd ((hoff 7 (by kernel_rfl)).symm.trans h0_) (by decide), Q_X4_, Q_X5_⟩
     refine steps_cons ?_ ?_
     ·rintro b a w' ⟨gb109, gb110, m4_, m5_, ha, Q_BK103, Q_BK104, Q_HB, Q_NB110_109, Q_NB109_110, Q_BK109, Q_GW109, Q_GE109, Q_NB103_109, Q_NB109_103, Q_NB104_109, Q_NB109_104, Q_BK110, Q_GW110, Q_GE110, Q_NB103_110, Q_NB110_103, Q_NB104_110, Q_NB110_104, Q_BK109_e6, Q_BK110_e7, Q_X4_, Q_X5_⟩ hb_ hon hoff
      refine ⟨_, rfl, fun K hK => ?_⟩
      have e7 : a.tmps[7]? = some (.agg #[.int .i64 a0_0, .int .i64 a0_1]) := by rw [ha]; exact putSel_on (e := (0, 7, .agg #[.int .i64 a0_0, .int .i64 a0_1])) 0 rfl rfl (hon 0 (by kernel_rfl)) rfl
      replace ha := Aside0.mk ha
      have BK103 := Aside0.mk Q_BK103
      have BK104 := Aside0.mk Q_BK104
      have HB := Aside0.mk Q_HB
      refine goes_ Tryd.func21 (by kernel_rfl) rfl #[.agg #[.int .i64 a0_0, .int .i64 a0_1]] (by rfl) rfl rfl (by first | (simp only [List.map_toArray, List.map_cons, List.map_nil, Act.eval, Array.getD_eq_getD_getElem?, Option.getD_some, e7]; done) | (simp only [List.map_toArray, List.map_cons, List.map_nil, Act.eval, Array.getD_eq_getD_getElem?, Option.getD_some, e7]; rfl)) ?_
      with_reducible refine (acceptor_pair.calls a0_0 a0_1 t105 t106 _ A3.out).mono ?_
      rintro e w49 ⟨rfl, hb⟩
      refine ⟨_, rfl, ?_⟩
      have n0_ := Aside0.mk (nb BK103.out hb)
      have n1_ := Aside0.mk (nb BK104.out hb)
      have n2_ := Aside0.mk (below_step bw hb)
      have z_BK109 := fun (h0_ : b 4 = true) (h1_ : b 6 = false) => (show w49.heap[gb109]? = some (.cells #[.int .i64 0, .int .i64 0] 59 (0, 0)) from by first | exact (blk_below (g := gb109) (o := .cells #[.int .i64 0, .int .i64 0] 59 (0, 0)) (by (with_reducible repeat (first | refine blk_drewN ?_ _ | refine blk_drew ?_ | refine blk_alloc ?_ _)); exact (Q_BK109 h0_ h1_)) hb))
      have z_BK110 := fun (h0_ : b 5 = true) (h1_ : b 7 = false) => (show w49.heap[gb110]? = some (.cells #[.int .i64 0, .int .i64 0] 59 (0, 0)) from by first | exact (blk_below (g := gb110) (o := .cells #[.int .i64 0, .int .i64 0] 59 (0, 0)) (by (with_reducible repeat (first | refine blk_drewN ?_ _ | refine blk_drew ?_ | refine blk_alloc ?_ _)); exact (Q_BK110 h0_ h1_)) hb))
      clear BK103
      clear BK104
      clear HB
      have BK103 := n0_
      have BK104 := n1_
      have HB := n2_
      clear n0_ n1_ n2_
      (try clear hb)
      (try clear hb2)
      (try clear hk)
      (try clear hi)
      refine hK.out _ _ ⟨gb109, gb110, m4_, m5_, (by rw [ha.out]; exact putSel_upk 1 hb_ rfl rfl rfl), (bk BK103.out), (bk BK104.out), bw, Q_NB110_109, Q_NB109_110, z_BK109, Q_GW109, Q_GE109, Q_NB103_109, Q_NB109_103, Q_NB104_109, Q_NB109_104, z_BK110, Q_GW110, Q_GE110, Q_NB103_110, Q_NB110_103, Q_NB104_110, Q_NB110_104, fun h0_ => absurd ((hoff 6 (by kernel_rfl)).symm.trans h0_) (by decide), fun h0_ => absurd ((hoff 7 (by kernel_rfl)).symm.trans h0_) (by decide), Q_X4_, Q_X5_⟩
     refine steps_cons ?_ ?_
     ·rintro b a w' ⟨gb109, gb110, m4_, m5_, ha, Q_BK103, Q_BK104, Q_HB, Q_NB110_109, Q_NB109_110, Q_BK109, Q_GW109, Q_GE109, Q_NB103_109, Q_NB109_103, Q_NB104_109, Q_NB109_104, Q_BK110, Q_GW110, Q_GE110, Q_NB103_110, Q_NB110_103, Q_NB104_110, Q_NB110_104, Q_BK109_e6, Q_BK110_e7, Q_X4_, Q_X5_⟩ hb_ hon hoff
      refine ⟨_, rfl, fun K hK => ?_⟩
      have e3 : a.tmps[3]? = some (.pointer (some ⟨gb104, 0, none⟩)) := by rw [ha]; exact (putSel_off rfl).trans rfl
      replace ha := Aside0.mk ha
      have BK103 := Aside0.mk Q_BK103
      have BK104 := Aside0.mk Q_BK104
      have HB := Aside0.mk Q_HB
      have hc0_ : w'.cell? ⟨gb104, 0, none⟩ = some (.int .i64 a1_0) := (blk_cell BK104.out 0).trans rfl
      have hc1_ : w'.cell? ⟨gb104, 1, none⟩ = some (.int .i64 a1_1) := (blk_cell BK104.out 1).trans rfl
      refine value_ (w1 := w') (v := .agg #[.int .i64 a1_0, .int .i64 a1_1]) (by rfl) rfl ?_ ?_
      ·go_simp
       (try simp only [i64_w])
       try rfl
      refine hK.out _ _ ⟨gb109, gb110, m4_, m5_, (by rw [ha.out]; exact putSel_upk 2 hb_ rfl rfl rfl), Q_BK103, Q_BK104, Q_HB, Q_NB110_109, Q_NB109_110, Q_BK109, Q_GW109, Q_GE109, Q_NB103_109, Q_NB109_103, Q_NB104_109, Q_NB109_104, Q_BK110, Q_GW110, Q_GE110, Q_NB103_110, Q_NB110_103, Q_NB104_110, Q_NB110_104, fun h0_ => absurd ((hoff 6 (by kernel_rfl)).symm.trans h0_) (by decide), fun h0_ => absurd ((hoff 7 (by kernel_rfl)).symm.trans h0_) (by decide), Q_X4_, Q_X5_⟩
     refine steps_cons ?_ ?_
     ·rintro b a w' ⟨gb109, gb110, m4_, m5_, ha, Q_BK103, Q_BK104, Q_HB, Q_NB110_109, Q_NB109_110, Q_BK109, Q_GW109, Q_GE109, Q_NB103_109, Q_NB109_103, Q_NB104_109, Q_NB109_104, Q_BK110, Q_GW110, Q_GE110, Q_NB103_110, Q_NB110_103, Q_NB104_110, Q_NB110_104, Q_BK109_e6, Q_BK110_e7, Q_X4_, Q_X5_⟩ hb_ hon hoff
      refine ⟨_, rfl, fun K hK => ?_⟩
      have e9 : a.tmps[9]? = some (.agg #[.int .i64 a1_0, .int .i64 a1_1]) := by rw [ha]; exact putSel_on (e := (2, 9, .agg #[.int .i64 a1_0, .int .i64 a1_1])) 2 rfl rfl (hon 2 (by kernel_rfl)) rfl
      replace ha := Aside0.mk ha
      have BK103 := Aside0.mk Q_BK103
      have BK104 := Aside0.mk Q_BK104
      have HB := Aside0.mk Q_HB
      refine goes_ Tryd.func21 (by kernel_rfl) rfl #[.agg #[.int .i64 a1_0, .int .i64 a1_1]] (by rfl) rfl rfl (by first | (simp only [List.map_toArray, List.map_cons, List.map_nil, Act.eval, Array.getD_eq_getD_getElem?, Option.getD_some, e9]; done) | (simp only [List.map_toArray, List.map_cons, List.map_nil, Act.eval, Array.getD_eq_getD_getElem?, Option.getD_some, e9]; rfl)) ?_
      with_reducible refine (acceptor_pair.calls a1_0 a1_1 t107 t108 _ A4.out).mono ?_
      rintro e w51 ⟨rfl, hb⟩
      refine ⟨_, rfl, ?_⟩
      have n0_ := Aside0.mk (nb BK103.out hb)
      have n1_ := Aside0.mk (nb BK104.out hb)
      have n2_ := Aside0.mk (below_step bw hb)
      have z_BK109 := fun (h0_ : b 4 = true) (h1_ : b 6 = false) => (show w51.heap[gb109]? = some (.cells #[.int .i64 0, .int .i64 0] 59 (0, 0)) from by first | exact (blk_below (g := gb109) (o := .cells #[.int .i64 0, .int .i64 0] 59 (0, 0)) (by (with_reducible repeat (first | refine blk_drewN ?_ _ | refine blk_drew ?_ | refine blk_alloc ?_ _)); exact (Q_BK109 h0_ h1_)) hb))
      have z_BK110 := fun (h0_ : b 5 = true) (h1_ : b 7 = false) => (show w51.heap[gb110]? = some (.cells #[.int .i64 0, .int .i64 0] 59 (0, 0)) from by first | exact (blk_below (g := gb110) (o := .cells #[.int .i64 0, .int .i64 0] 59 (0, 0)) (by (with_reducible repeat (first | refine blk_drewN ?_ _ | refine blk_drew ?_ | refine blk_alloc ?_ _)); exact (Q_BK110 h0_ h1_)) hb))
      clear BK103
      clear BK104
      clear HB
      have BK103 := n0_
      have BK104 := n1_
      have HB := n2_
      clear n0_ n1_ n2_
      (try clear hb)
      (try clear hb2)
      (try clear hk)
      (try clear hi)
      refine hK.out _ _ ⟨gb109, gb110, m4_, m5_, (by rw [ha.out]; exact putSel_upk 3 hb_ rfl rfl rfl), (bk BK103.out), (bk BK104.out), bw, Q_NB110_109, Q_NB109_110, z_BK109, Q_GW109, Q_GE109, Q_NB103_109, Q_NB109_103, Q_NB104_109, Q_NB109_104, z_BK110, Q_GW110, Q_GE110, Q_NB103_110, Q_NB110_103, Q_NB104_110, Q_NB110_104, fun h0_ => absurd ((hoff 6 (by kernel_rfl)).symm.trans h0_) (by decide), fun h0_ => absurd ((hoff 7 (by kernel_rfl)).symm.trans h0_) (by decide), Q_X4_, Q_X5_⟩
     refine steps_cons ?_ ?_
     ·rintro b a w' ⟨gb109, gb110, m4_, m5_, ha, Q_BK103, Q_BK104, Q_HB, Q_NB110_109, Q_NB109_110, Q_BK109, Q_GW109, Q_GE109, Q_NB103_109, Q_NB109_103, Q_NB104_109, Q_NB109_104, Q_BK110, Q_GW110, Q_GE110, Q_NB103_110, Q_NB110_103, Q_NB104_110, Q_NB110_104, Q_BK109_e6, Q_BK110_e7, Q_X4_, Q_X5_⟩ hb_ hon hoff
      refine ⟨_, rfl, fun K hK => ?_⟩
      replace ha := Aside0.mk ha
      have BK103 := Aside0.mk Q_BK103
      have BK104 := Aside0.mk Q_BK104
      have HB := Aside0.mk Q_HB
      refine box_step ?hg (N := 5) ?hd (cs := #[.int .i64 0, .int .i64 0]) (t := 59) ?hr ?_; (case hd => rfl); (case hg => rfl); (case hr => first | (go_simp; done) | (go_simp; rfl))
      intro gb109 hg w49 hbox hb
      have n0_ := Aside0.mk (nb BK103.out hb)
      have n1_ := Aside0.mk (nb BK104.out hb)
      have n2_ := Aside0.mk (below_step bw hb)
      have n3_ := Aside0.mk (hbox)
      have n4_ := Aside0.mk ((g1 hg bw : w.heap.size ≤ gb109))
      have n5_ := Aside0.mk ((g1 hg bw : w.heap.size ≤ gb109))
      have n6_ := Aside0.mk ((n1 hg BK103.out : gb103 ≠ gb109))
      have n7_ := Aside0.mk ((n2 hg BK103.out : gb109 ≠ gb103))
      have n8_ := Aside0.mk ((n1 hg BK104.out : gb104 ≠ gb109))
      have n9_ := Aside0.mk ((n2 hg BK104.out : gb109 ≠ gb104))
      have z_NB110_109 := fun (h0_ : up b 4 4 = true) (h1_ : up b 4 5 = true) => (show gb110 ≠ gb109 from ((by rw [hg]; exact Nat.ne_of_lt (blk_lt (g := gb110) (o := .cells #[.int .i64 0, .int .i64 0] 59 (0, 0)) (by (with_reducible repeat (first | refine blk_drewN ?_ _ | refine blk_drew ?_ | refine blk_alloc ?_ _)); (first | exact BK110.out | exact Q_BK110 (by first | exact h0_ | exact h1_ | exact (up_ne (by decide)).symm.trans h0_ | exact (up_ne (by decide)).symm.trans h1_) (hoff _ (by kernel_rfl))))) : gb110 ≠ gb109)))
      have z_NB109_110 := fun (h0_ : up b 4 4 = true) (h1_ : up b 4 5 = true) => (show gb109 ≠ gb110 from ((by rw [hg]; exact Nat.ne_of_gt (blk_lt (g := gb110) (o := .cells #[.int .i64 0, .int .i64 0] 59 (0, 0)) (by (with_reducible repeat (first | refine blk_drewN ?_ _ | refine blk_drew ?_ | refine blk_alloc ?_ _)); (first | exact BK110.out | exact Q_BK110 (by first | exact h0_ | exact h1_ | exact (up_ne (by decide)).symm.trans h0_ | exact (up_ne (by decide)).symm.trans h1_) (hoff _ (by kernel_rfl))))) : gb109 ≠ gb110)))
      have z_BK110 := fun (h0_ : b 5 = true) (h1_ : b 7 = false) => (show w49.heap[gb110]? = some (.cells #[.int .i64 0, .int .i64 0] 59 (0, 0)) from by first | exact (blk_below (g := gb110) (o := .cells #[.int .i64 0, .int .i64 0] 59 (0, 0)) (by (with_reducible repeat (first | refine blk_drewN ?_ _ | refine blk_drew ?_ | refine blk_alloc ?_ _)); exact (Q_BK110 h0_ h1_)) hb))
      clear BK103
      clear BK104
      clear HB
      have BK103 := n0_
      have BK104 := n1_
      have HB := n2_
      have BK109 := n3_
      have GW109 := n4_
      have GE109 := n5_
      have NB103_109 := n6_
      have NB109_103 := n7_
      have NB104_109 := n8_
      have NB109_104 := n9_
      clear n0_ n1_ n2_ n3_ n4_ n5_ n6_ n7_ n8_ n9_
      clear hb hbox hg
      refine hK.out _ _ ⟨gb109, gb110, (.pointer (some ⟨gb109, 0, none⟩)), m5_, (by rw [ha.out]; exact putSel_upk 4 hb_ rfl rfl rfl), (bk BK103.out), (bk BK104.out), bw, z_NB110_109, z_NB109_110, fun _ _ => (bk BK109.out), fun _ => GW109.out, fun _ => GE109.out, fun _ => NB103_109.out, fun _ => NB109_103.out, fun _ => NB104_109.out, fun _ => NB109_104.out, z_BK110, Q_GW110, Q_GE110, Q_NB103_110, Q_NB110_103, Q_NB104_110, Q_NB110_104, fun h0_ => absurd ((hoff 6 (by kernel_rfl)).symm.trans h0_) (by decide), fun h0_ => absurd ((hoff 7 (by kernel_rfl)).symm.trans h0_) (by decide), fun _ => rfl, Q_X5_⟩
     refine steps_cons ?_ ?_
     ·rintro b a w' ⟨gb109, gb110, m4_, m5_, ha, Q_BK103, Q_BK104, Q_HB, Q_NB110_109, Q_NB109_110, Q_BK109, Q_GW109, Q_GE109, Q_NB103_109, Q_NB109_103, Q_NB104_109, Q_NB109_104, Q_BK110, Q_GW110, Q_GE110, Q_NB103_110, Q_NB110_103, Q_NB104_110, Q_NB110_104, Q_BK109_e6, Q_BK110_e7, Q_X4_, Q_X5_⟩ hb_ hon hoff
      refine ⟨_, rfl, fun K hK => ?_⟩
      replace ha := Aside0.mk ha
      have BK103 := Aside0.mk Q_BK103
      have BK104 := Aside0.mk Q_BK104
      have HB := Aside0.mk Q_HB
      refine box_step ?hg (N := 6) ?hd (cs := #[.int .i64 0, .int .i64 0]) (t := 59) ?hr ?_; (case hd => rfl); (case hg => rfl); (case hr => first | (go_simp; done) | (go_simp; rfl))
      intro gb110 hg w49 hbox hb
      have n0_ := Aside0.mk (nb BK103.out hb)
      have n1_ := Aside0.mk (nb BK104.out hb)
      have n2_ := Aside0.mk (below_step bw hb)
      have n3_ := Aside0.mk (hbox)
      have n4_ := Aside0.mk ((g1 hg bw : w.heap.size ≤ gb110))
      have n5_ := Aside0.mk ((g1 hg bw : w.heap.size ≤ gb110))
      have n6_ := Aside0.mk ((n1 hg BK103.out : gb103 ≠ gb110))
      have n7_ := Aside0.mk ((n2 hg BK103.out : gb110 ≠ gb103))
      have n8_ := Aside0.mk ((n1 hg BK104.out : gb104 ≠ gb110))
      have n9_ := Aside0.mk ((n2 hg BK104.out : gb110 ≠ gb104))
      have z_NB110_109 := fun (h0_ : up b 5 4 = true) (h1_ : up b 5 5 = true) => (show gb110 ≠ gb109 from ((by rw [hg]; exact Nat.ne_of_gt (blk_lt (g := gb109) (o := .cells #[.int .i64 0, .int .i64 0] 59 (0, 0)) (by (with_reducible repeat (first | refine blk_drewN ?_ _ | refine blk_drew ?_ | refine blk_alloc ?_ _)); (first | exact BK109.out | exact Q_BK109 (by first | exact h0_ | exact h1_ | exact (up_ne (by decide)).symm.trans h0_ | exact (up_ne (by decide)).symm.trans h1_) (hoff _ (by kernel_rfl))))) : gb110 ≠ gb109)))
      have z_NB109_110 := fun (h0_ : up b 5 4 = true) (h1_ : up b 5 5 = true) => (show gb109 ≠ gb110 from ((by rw [hg]; exact Nat.ne_of_lt (blk_lt (g := gb109) (o := .cells #[.int .i64 0, .int .i64 0] 59 (0, 0)) (by (with_reducible repeat (first | refine blk_drewN ?_ _ | refine blk_drew ?_ | refine blk_alloc ?_ _)); (first | exact BK109.out | exact Q_BK109 (by first | exact h0_ | exact h1_ | exact (up_ne (by decide)).symm.trans h0_ | exact (up_ne (by decide)).symm.trans h1_) (hoff _ (by kernel_rfl))))) : gb109 ≠ gb110)))
      have z_BK109 := fun (h0_ : b 4 = true) (h1_ : b 6 = false) => (show w49.heap[gb109]? = some (.cells #[.int .i64 0, .int .i64 0] 59 (0, 0)) from by first | exact (blk_below (g := gb109) (o := .cells #[.int .i64 0, .int .i64 0] 59 (0, 0)) (by (with_reducible repeat (first | refine blk_drewN ?_ _ | refine blk_drew ?_ | refine blk_alloc ?_ _)); exact (Q_BK109 h0_ h1_)) hb))
      clear BK103
      clear BK104
      clear HB
      have BK103 := n0_
      have BK104 := n1_
      have HB := n2_
      have BK110 := n3_
      have GW110 := n4_
      have GE110 := n5_
      have NB103_110 := n6_
      have NB110_103 := n7_
      have NB104_110 := n8_
      have NB110_104 := n9_
      clear n0_ n1_ n2_ n3_ n4_ n5_ n6_ n7_ n8_ n9_
      clear hb hbox hg
      refine hK.out _ _ ⟨gb109, gb110, m4_, (.pointer (some ⟨gb110, 0, none⟩)), (by rw [ha.out]; exact putSel_upk 5 hb_ rfl rfl rfl), (bk BK103.out), (bk BK104.out), bw, z_NB110_109, z_NB109_110, z_BK109, Q_GW109, Q_GE109, Q_NB103_109, Q_NB109_103, Q_NB104_109, Q_NB109_104, fun _ _ => (bk BK110.out), fun _ => GW110.out, fun _ => GE110.out, fun _ => NB103_110.out, fun _ => NB110_103.out, fun _ => NB104_110.out, fun _ => NB110_104.out, fun h0_ => absurd ((hoff 6 (by kernel_rfl)).symm.trans h0_) (by decide), fun h0_ => absurd ((hoff 7 (by kernel_rfl)).symm.trans h0_) (by decide), Q_X4_, fun _ => rfl⟩
     refine steps_cons ?_ ?_
     ·rintro b a w' ⟨gb109, gb110, m4_, m5_, ha, Q_BK103, Q_BK104, Q_HB, Q_NB110_109, Q_NB109_110, Q_BK109, Q_GW109, Q_GE109, Q_NB103_109, Q_NB109_103, Q_NB104_109, Q_NB109_104, Q_BK110, Q_GW110, Q_GE110, Q_NB103_110, Q_NB110_103, Q_NB104_110, Q_NB110_104, Q_BK109_e6, Q_BK110_e7, Q_X4_, Q_X5_⟩ hb_ hon hoff
      refine ⟨_, rfl, fun K hK => ?_⟩
      have e5 : a.tmps[5]? = some (m4_) := by rw [ha]; exact putSel_on (e := (4, 5, m4_)) 4 rfl rfl (hon 4 (by kernel_rfl)) rfl
      rw [Q_X4_ (hon 4 (by kernel_rfl))] at e5
      have e8 : a.tmps[8]? = some (.agg #[.int .i64 t105, .int .i64 t106]) := by rw [ha]; exact putSel_on (e := (1, 8, .agg #[.int .i64 t105, .int .i64 t106])) 1 rfl rfl (hon 1 (by kernel_rfl)) rfl
      replace ha := Aside0.mk ha
      have BK103 := Aside0.mk Q_BK103
      have BK104 := Aside0.mk Q_BK104
      have HB := Aside0.mk Q_HB
      have NB110_109 := Aside0.mk (Q_NB110_109 (hon 4 (by kernel_rfl)) (hon 5 (by kernel_rfl)))
      have NB109_110 := Aside0.mk (Q_NB109_110 (hon 4 (by kernel_rfl)) (hon 5 (by kernel_rfl)))
      have BK109 := Aside0.mk (Q_BK109 (hon 4 (by kernel_rfl)) hb_)
      have GW109 := Aside0.mk (Q_GW109 (hon 4 (by kernel_rfl)))
      have GE109 := Aside0.mk (Q_GE109 (hon 4 (by kernel_rfl)))
      have NB103_109 := Aside0.mk (Q_NB103_109 (hon 4 (by kernel_rfl)))
      have NB109_103 := Aside0.mk (Q_NB109_103 (hon 4 (by kernel_rfl)))
      have NB104_109 := Aside0.mk (Q_NB104_109 (hon 4 (by kernel_rfl)))
      have NB109_104 := Aside0.mk (Q_NB109_104 (hon 4 (by kernel_rfl)))
      have BK110 := Aside0.mk (Q_BK110 (hon 5 (by kernel_rfl)) (hoff 7 (by kernel_rfl)))
      have GW110 := Aside0.mk (Q_GW110 (hon 5 (by kernel_rfl)))
      have GE110 := Aside0.mk (Q_GE110 (hon 5 (by kernel_rfl)))
      have NB103_110 := Aside0.mk (Q_NB103_110 (hon 5 (by kernel_rfl)))
      have NB110_103 := Aside0.mk (Q_NB110_103 (hon 5 (by kernel_rfl)))
      have NB104_110 := Aside0.mk (Q_NB104_110 (hon 5 (by kernel_rfl)))
      have NB110_104 := Aside0.mk (Q_NB110_104 (hon 5 (by kernel_rfl)))
      have hs54 : w'.cell? ⟨gb109, 0, none⟩ = some (.int .i64 0) := (blk_cell BK109.out 0).trans rfl
      have hfs54 := blk_frozen BK109.out 0
      have hns54_0 := NB103_109.out
      have hns54_1 := NB104_109.out
      have hns54_3 := NB110_109.out
      have hms54_0 := NB109_103.out
      have hms54_1 := NB109_104.out
      have hms54_3 := NB109_110.out
      have hs55 : w'.cell? ⟨gb109, 1, none⟩ = some (.int .i64 0) := (blk_cell BK109.out 1).trans rfl
      have hfs55 := blk_frozen BK109.out 1
      have hns55_0 := NB103_109.out
      have hns55_1 := NB104_109.out
      have hns55_3 := NB110_109.out
      have hms55_0 := NB109_103.out
      have hms55_1 := NB109_104.out
      have hms55_3 := NB109_110.out
      refine skip_ (w1 := ?_) (by rfl) rfl ?_ ?_
      rotate_left
      ·go_simp
       rfl
      refine hK.out _ _ ⟨gb109, gb110, m4_, m5_, (by rw [ha.out]; exact putSel_none (v := undef) rfl), (by (with_reducible repeat (first | refine blk_drewN ?_ _ | refine blk_drew ?_ | refine blk_alloc ?_ _ | refine blk_far ?_ NB103_109.out _)); exact BK103.out), (by (with_reducible repeat (first | refine blk_drewN ?_ _ | refine blk_drew ?_ | refine blk_alloc ?_ _ | refine blk_far ?_ NB104_109.out _)); exact BK104.out), bw, fun _ _ => NB110_109.out, fun _ _ => NB109_110.out, fun _ h1_ => absurd ((up_self b 6).symm.trans h1_) (by decide), fun _ => GW109.out, fun _ => GE109.out, fun _ => NB103_109.out, fun _ => NB109_103.out, fun _ => NB104_109.out, fun _ => NB109_104.out, fun _ _ => (by (with_reducible repeat (first | refine blk_drewN ?_ _ | refine blk_drew ?_ | refine blk_alloc ?_ _ | refine blk_far ?_ NB110_109.out _)); exact BK110.out), fun _ => GW110.out, fun _ => GE110.out, fun _ => NB103_110.out, fun _ => NB110_103.out, fun _ => NB104_110.out, fun _ => NB110_104.out, fun _ => (by (with_reducible repeat (first | refine blk_drewN ?_ _ | refine blk_drew ?_ | refine blk_alloc ?_ _)); refine blk_put (cs := #[.int .i64 t105, .int .i64 0]) ?_ 1 _ rfl; (with_reducible repeat (first | refine blk_drewN ?_ _ | refine blk_drew ?_ | refine blk_alloc ?_ _)); refine blk_put (cs := #[.int .i64 0, .int .i64 0]) ?_ 0 _ rfl; (with_reducible repeat (first | refine blk_drewN ?_ _ | refine blk_drew ?_ | refine blk_alloc ?_ _)); exact BK109.out), fun h0_ => absurd ((hoff 7 (by kernel_rfl)).symm.trans h0_) (by decide), Q_X4_, Q_X5_⟩
     refine steps_cons ?_ ?_
     ·rintro b a w' ⟨gb109, gb110, m4_, m5_, ha, Q_BK103, Q_BK104, Q_HB, Q_NB110_109, Q_NB109_110, Q_BK109, Q_GW109, Q_GE109, Q_NB103_109, Q_NB109_103, Q_NB104_109, Q_NB109_104, Q_BK110, Q_GW110, Q_GE110, Q_NB103_110, Q_NB110_103, Q_NB104_110, Q_NB110_104, Q_BK109_e6, Q_BK110_e7, Q_X4_, Q_X5_⟩ hb_ hon hoff
      refine ⟨_, rfl, fun K hK => ?_⟩
      have e6 : a.tmps[6]? = some (m5_) := by rw [ha]; exact putSel_on (e := (5, 6, m5_)) 5 rfl rfl (hon 5 (by kernel_rfl)) rfl
      rw [Q_X5_ (hon 5 (by kernel_rfl))] at e6
      have e10 : a.tmps[10]? = some (.agg #[.int .i64 t107, .int .i64 t108]) := by rw [ha]; exact putSel_on (e := (3, 10, .agg #[.int .i64 t107, .int .i64 t108])) 3 rfl rfl (hon 3 (by kernel_rfl)) rfl
      replace ha := Aside0.mk ha
      have BK103 := Aside0.mk Q_BK103
      have BK104 := Aside0.mk Q_BK104
      have HB := Aside0.mk Q_HB
      have NB110_109 := Aside0.mk (Q_NB110_109 (hon 4 (by kernel_rfl)) (hon 5 (by kernel_rfl)))
      have NB109_110 := Aside0.mk (Q_NB109_110 (hon 4 (by kernel_rfl)) (hon 5 (by kernel_rfl)))
      have GW109 := Aside0.mk (Q_GW109 (hon 4 (by kernel_rfl)))
      have GE109 := Aside0.mk (Q_GE109 (hon 4 (by kernel_rfl)))
      have NB103_109 := Aside0.mk (Q_NB103_109 (hon 4 (by kernel_rfl)))
      have NB109_103 := Aside0.mk (Q_NB109_103 (hon 4 (by kernel_rfl)))
      have NB104_109 := Aside0.mk (Q_NB104_109 (hon 4 (by kernel_rfl)))
      have NB109_104 := Aside0.mk (Q_NB109_104 (hon 4 (by kernel_rfl)))
      have BK110 := Aside0.mk (Q_BK110 (hon 5 (by kernel_rfl)) hb_)
      have GW110 := Aside0.mk (Q_GW110 (hon 5 (by kernel_rfl)))
      have GE110 := Aside0.mk (Q_GE110 (hon 5 (by kernel_rfl)))
      have NB103_110 := Aside0.mk (Q_NB103_110 (hon 5 (by kernel_rfl)))
      have NB110_103 := Aside0.mk (Q_NB110_103 (hon 5 (by kernel_rfl)))
      have NB104_110 := Aside0.mk (Q_NB104_110 (hon 5 (by kernel_rfl)))
      have NB110_104 := Aside0.mk (Q_NB110_104 (hon 5 (by kernel_rfl)))
      have BK109 := Aside0.mk (Q_BK109_e6 (hon 6 (by kernel_rfl)))
      have hs56 : w'.cell? ⟨gb110, 0, none⟩ = some (.int .i64 0) := (blk_cell BK110.out 0).trans rfl
      have hfs56 := blk_frozen BK110.out 0
      have hns56_0 := NB103_110.out
      have hns56_1 := NB104_110.out
      have hns56_2 := NB109_110.out
      have hms56_0 := NB110_103.out
      have hms56_1 := NB110_104.out
      have hms56_2 := NB110_109.out
      have hs57 : w'.cell? ⟨gb110, 1, none⟩ = some (.int .i64 0) := (blk_cell BK110.out 1).trans rfl
      have hfs57 := blk_frozen BK110.out 1
      have hns57_0 := NB103_110.out
      have hns57_1 := NB104_110.out
      have hns57_2 := NB109_110.out
      have hms57_0 := NB110_103.out
      have hms57_1 := NB110_104.out
      have hms57_2 := NB110_109.out
      refine skip_ (w1 := ?_) (by rfl) rfl ?_ ?_
      rotate_left
      ·go_simp
       rfl
      refine hK.out _ _ ⟨gb109, gb110, m4_, m5_, (by rw [ha.out]; exact putSel_none (v := undef) rfl), (by (with_reducible repeat (first | refine blk_drewN ?_ _ | refine blk_drew ?_ | refine blk_alloc ?_ _ | refine blk_far ?_ NB103_110.out _)); exact BK103.out), (by (with_reducible repeat (first | refine blk_drewN ?_ _ | refine blk_drew ?_ | refine blk_alloc ?_ _ | refine blk_far ?_ NB104_110.out _)); exact BK104.out), bw, fun _ _ => NB110_109.out, fun _ _ => NB109_110.out, fun _ h1_ => absurd ((hon 6 (by kernel_rfl)).symm.trans h1_) (by decide), fun _ => GW109.out, fun _ => GE109.out, fun _ => NB103_109.out, fun _ => NB109_103.out, fun _ => NB104_109.out, fun _ => NB109_104.out, fun _ h1_ => absurd ((up_self b 7).symm.trans h1_) (by decide), fun _ => GW110.out, fun _ => GE110.out, fun _ => NB103_110.out, fun _ => NB110_103.out, fun _ => NB104_110.out, fun _ => NB110_104.out, fun _ => (by (with_reducible repeat (first | refine blk_drewN ?_ _ | refine blk_drew ?_ | refine blk_alloc ?_ _ | refine blk_far ?_ NB109_110.out _)); exact BK109.out), fun _ => (by (with_reducible repeat (first | refine blk_drewN ?_ _ | refine blk_drew ?_ | refine blk_alloc ?_ _)); refine blk_put (cs := #[.int .i64 t107, .int .i64 0]) ?_ 1 _ rfl; (with_reducible repeat (first | refine blk_drewN ?_ _ | refine blk_drew ?_ | refine blk_alloc ?_ _)); refine blk_put (cs := #[.int .i64 0, .int .i64 0]) ?_ 0 _ rfl; (with_reducible repeat (first | refine blk_drewN ?_ _ | refine blk_drew ?_ | refine blk_alloc ?_ _)); exact BK110.out), Q_X4_, Q_X5_⟩
     exact steps_nil
    rintro b a w57 hall ⟨gb109, gb110, m4_, m5_, ha, Q_BK103, Q_BK104, Q_HB, Q_NB110_109, Q_NB109_110, Q_BK109, Q_GW109, Q_GE109, Q_NB103_109, Q_NB109_103, Q_NB104_109, Q_NB109_104, Q_BK110, Q_GW110, Q_GE110, Q_NB103_110, Q_NB110_103, Q_NB104_110, Q_NB110_104, Q_BK109_e6, Q_BK110_e7, Q_X4_, Q_X5_⟩
    clear BK103 BK104 HB
    have hb0_ := hall 0 (by kernel_rfl)
    have hb1_ := hall 1 (by kernel_rfl)
    have hb2_ := hall 2 (by kernel_rfl)
    have hb3_ := hall 3 (by kernel_rfl)
    have hb4_ := hall 4 (by kernel_rfl)
    have hb5_ := hall 5 (by kernel_rfl)
    have hb6_ := hall 6 (by kernel_rfl)
    have hb7_ := hall 7 (by kernel_rfl)
    subst ha
    obtain rfl := Q_X4_ hb4_
    obtain rfl := Q_X5_ hb5_
    simp only [putSel, hb0_, hb1_, hb2_, hb3_, hb4_, hb5_, hb6_, hb7_, if_true, Act.put, sl1, sl2, sl3]
    have BK103 := Aside0.mk Q_BK103
    clear Q_BK103
    have BK104 := Aside0.mk Q_BK104
    clear Q_BK104
    have HB := Aside0.mk Q_HB
    clear Q_HB
    have NB110_109 := Aside0.mk (Q_NB110_109 hb4_ hb5_)
    clear Q_NB110_109
    have NB109_110 := Aside0.mk (Q_NB109_110 hb4_ hb5_)
    clear Q_NB109_110
    clear Q_BK109
    have GW109 := Aside0.mk (Q_GW109 hb4_)
    clear Q_GW109
    have GE109 := Aside0.mk (Q_GE109 hb4_)
    clear Q_GE109
    have NB103_109 := Aside0.mk (Q_NB103_109 hb4_)
    clear Q_NB103_109
    have NB109_103 := Aside0.mk (Q_NB109_103 hb4_)
    clear Q_NB109_103
    have NB104_109 := Aside0.mk (Q_NB104_109 hb4_)
    clear Q_NB104_109
    have NB109_104 := Aside0.mk (Q_NB109_104 hb4_)
    clear Q_NB109_104
    clear Q_BK110
    have GW110 := Aside0.mk (Q_GW110 hb5_)
    clear Q_GW110
    have GE110 := Aside0.mk (Q_GE110 hb5_)
    clear Q_GE110
    have NB103_110 := Aside0.mk (Q_NB103_110 hb5_)
    clear Q_NB103_110
    have NB110_103 := Aside0.mk (Q_NB110_103 hb5_)
    clear Q_NB110_103
    have NB104_110 := Aside0.mk (Q_NB104_110 hb5_)
    clear Q_NB104_110
    have NB110_104 := Aside0.mk (Q_NB110_104 hb5_)
    clear Q_NB110_104
    have BK109 := Aside0.mk (Q_BK109_e6 hb6_)
    clear Q_BK109_e6
    have BK110 := Aside0.mk (Q_BK110_e7 hb7_)
    clear Q_BK110_e7
    clear hall hb0_ hb1_ hb2_ hb3_ hb4_ hb5_ hb6_ hb7_
    have hnb58 := NB109_103.out
    have hnc58 := NB103_109.out
    have hnb59 := NB109_104.out
    have hnc59 := NB104_109.out
    have hnb60 := NB109_110.out
    have hnc60 := NB110_109.out
    have hcz61_0 := bc2_0 BK109.out
    have hcz61_1 := bc2_1 BK109.out
    have hfz61_0 := blk_frozen BK109.out 0
    have hfz61_1 := blk_frozen BK109.out 1
    have hnb62 := NB110_103.out
    have hnc62 := NB103_110.out
    have hnb63 := NB110_104.out
    have hnc63 := NB104_110.out
    have hcz64_0 := bc2_0 BK110.out
    have hcz64_1 := bc2_1 BK110.out
    have hfz64_0 := blk_frozen BK110.out 0
    have hfz64_1 := blk_frozen BK110.out 1
    try go_wp2
    go_ret
    exact ⟨er, bw⟩
 ·rw [if_neg c5] at H
  have c5b0 : (!(t105 == t107) || (!(t106 == t108))) = false := by simpa using c5
  (try (have c5b1 : (t105 == t107 && (t106 == t108)) = true := by have e_ : (t105 == t107 && (t106 == t108)) = (!(!(t105 == t107) || (!(t106 == t108)))) := (by simp only [Bool.not_or, Bool.not_and, Bool.not_not]); rw [e_]; first | (simp only [c5, Bool.not_true]; done) | (simp only [Bool.eq_false_iff.mpr c5, Bool.not_false]; done)))
  clear c5
  obtain rfl := Option.some.inj H
  go_enter Tryd.func13, Tryd.ntmps13
  try go_wp2_with (first | ((with_reducible refine gate_dst (N := 2) rfl ?_); refine box_event ?hg (N := 2) ?hd (cs := #[.int .i64 a0_0, .int .i64 a0_1]) (t := 23) ?hr ?_; (case hd => rfl); (case hg => rfl); (case hr => first | (go_simp; done) | (go_simp; rfl)); intro gb103 hg w65 hbox hb; have n0_ := Aside0.mk (below_step bw hb); have n1_ := Aside0.mk (hbox); have n2_ := Aside0.mk ((g1 hg bw : w.heap.size ≤ gb103)); have n3_ := Aside0.mk ((g1 hg bw : w.heap.size ≤ gb103)); clear HB; have HB := n0_; have BK103 := n1_; have GW103 := n2_; have GE103 := n3_; clear n0_ n1_ n2_ n3_; clear hb hbox hg) | ((with_reducible refine gate_dst (N := 3) rfl ?_); refine box_event ?hg (N := 3) ?hd (cs := #[.int .i64 a1_0, .int .i64 a1_1]) (t := 23) ?hr ?_; (case hd => rfl); (case hg => rfl); (case hr => first | (go_simp; done) | (go_simp; rfl)); intro gb104 hg w66 hbox hb; have n0_ := Aside0.mk (nb BK103.out hb); have n1_ := Aside0.mk (below_step bw hb); have n2_ := Aside0.mk (hbox); have n3_ := Aside0.mk ((g1 hg bw : w.heap.size ≤ gb104)); have n4_ := Aside0.mk ((g1 hg bw : w.heap.size ≤ gb104)); have n5_ := Aside0.mk ((n1 hg BK103.out : gb103 ≠ gb104)); have n6_ := Aside0.mk ((n2 hg BK103.out : gb104 ≠ gb103)); clear BK103; clear HB; have BK103 := n0_; have HB := n1_; have BK104 := n2_; have GW104 := n3_; have GE104 := n4_; have NB103_104 := n5_; have NB104_103 := n6_; clear n0_ n1_ n2_ n3_ n4_ n5_ n6_; clear hb hbox hg))
  have n0_ := Aside0.mk (blk_drew BK103.out)
  have n1_ := Aside0.mk (blk_drew BK104.out)
  have n2_ := Aside0.mk (below_drew1 HB.out)
  clear BK103
  clear BK104
  clear HB
  have BK103 := n0_
  have BK104 := n1_
  have HB := n2_
  clear n0_ n1_ n2_
  refine start_ (n := 8) (S := fun w' => True) (ds := []) #[false, false, false, false, false, false, false, false] (by kernel_rfl) rfl rfl trivial (fun hHeld => ?_); refine with_tabW acceptor_Less.tab1 acceptor_Less.bits1 (fun HT_ HW_ => ?_)
  generalize w66.drew = w67 at BK103 BK104 HB hHeld ⊢
  refine inv_at [0, 1, 2, 3, 4, 5, 6, 7] (fun a0_ b a w' => ∃ (gb109 : Nat) (gb110 : Nat) (m4_ : Value) (m5_ : Value), a = putSel a0_ b [(0, 7, .agg #[.int .i64 a0_0, .int .i64 a0_1]), (1, 8, .agg #[.int .i64 t105, .int .i64 t106]), (2, 9, .agg #[.int .i64 a1_0, .int .i64 a1_1]), (3, 10, .agg #[.int .i64 t107, .int .i64 t108]), (4, 5, m4_), (5, 6, m5_)] ∧ (w'.heap[gb103]? = some (.cells #[.int .i64 a0_0, .int .i64 a0_1] 23 (0, 0))) ∧ (w'.heap[gb104]? = some (.cells #[.int .i64 a1_0, .int .i64 a1_1] 23 (0, 0))) ∧ (Below w.heap.size w w') ∧ (b 4 = true → b 5 = true → gb110 ≠ gb109) ∧ (b 4 = true → b 5 = true → gb109 ≠ gb110) ∧ (b 4 = true → b 6 = false → w'.heap[gb109]? = some (.cells #[.int .i64 0, .int .i64 0] 59 (0, 0))) ∧ (b 4 = true → w.heap.size ≤ gb109) ∧ (b 4 = true → w.heap.size ≤ gb109) ∧ (b 4 = true → gb103 ≠ gb109) ∧ (b 4 = true → gb109 ≠ gb103) ∧ (b 4 = true → gb104 ≠ gb109) ∧ (b 4 = true → gb109 ≠ gb104) ∧ (b 5 = true → b 7 = false → w'.heap[gb110]? = some (.cells #[.int .i64 0, .int .i64 0] 59 (0, 0))) ∧ (b 5 = true → w.heap.size ≤ gb110) ∧ (b 5 = true → w.heap.size ≤ gb110) ∧ (b 5 = true → gb103 ≠ gb110) ∧ (b 5 = true → gb110 ≠ gb103) ∧ (b 5 = true → gb104 ≠ gb110) ∧ (b 5 = true → gb110 ≠ gb104) ∧ (b 6 = true → w'.heap[gb109]? = some (.cells #[.int .i64 t105, .int .i64 t106] 59 (0, 0))) ∧ (b 7 = true → w'.heap[gb110]? = some (.cells #[.int .i64 t107, .int .i64 t108] 59 (0, 0))) ∧ (b 4 = true → (m4_ : Value) = .pointer (some ⟨gb109, 0, none⟩)) ∧ (b 5 = true → (m5_ : Value) = .pointer (some ⟨gb110, 0, none⟩))) HT_.out HW_.out (by kernel_rfl) (by kernel_rfl) ?_ ?_ ?_
  ·exact ⟨0, 0, .bool false, .bool false, by simp only [putSel, Bool.false_eq_true, if_false], BK103.out, BK104.out, HB.out, fun h_ => absurd h_ (by decide), fun h_ => absurd h_ (by decide), fun h_ => absurd h_ (by decide), fun h_ => absurd h_ (by decide), fun h_ => absurd h_ (by decide), fun h_ => absurd h_ (by decide), fun h_ => absurd h_ (by decide), fun h_ => absurd h_ (by decide), fun h_ => absurd h_ (by decide), fun h_ => absurd h_ (by decide), fun h_ => absurd h_ (by decide), fun h_ => absurd h_ (by decide), fun h_ => absurd h_ (by decide), fun h_ => absurd h_ (by decide), fun h_ => absurd h_ (by decide), fun h_ => absurd h_ (by decide), fun h_ => absurd h_ (by decide), fun h_ => absurd h_ (by decide), fun h_ => absurd h_ (by decide), fun h_ => absurd h_ (by decide)⟩
  ·skip
   clear BK103 BK104 HB
   refine steps_cons ?_ ?_
   ·rintro b a w' ⟨gb109, gb110, m4_, m5_, ha, Q_BK103, Q_BK104, Q_HB, Q_NB110_109, Q_NB109_110, Q_BK109, Q_GW109, Q_GE109, Q_NB103_109, Q_NB109_103, Q_NB104_109, Q_NB109_104, Q_BK110, Q_GW110, Q_GE110, Q_NB103_110, Q_NB110_103, Q_NB104_110, Q_NB110_104, Q_BK109_e6, Q_BK110_e7, Q_X4_, Q_X5_⟩ hb_ hon hoff
    refine ⟨_, rfl, fun K hK => ?_⟩
    have e2 : a.tmps[2]? = some (.pointer (some ⟨gb103, 0, none⟩)) := by rw [ha]; exact (putSel_off rfl).trans rfl
    replace ha := Aside0.mk ha
    have BK103 := Aside0.mk Q_BK103
    have BK104 := Aside0.mk Q_BK104
    have HB := Aside0.mk Q_HB
    have hc0_ : w'.cell? ⟨gb103, 0, none⟩ = some (.int .i64 a0_0) := (blk_cell BK103.out 0).trans rfl
    have hc1_ : w'.cell? ⟨gb103, 1, none⟩ = some (.int .i64 a0_1) := (blk_cell BK103.out 1).trans rfl
    refine value_ (w1 := w') (v := .agg #[.int .i64 a0_0, .int .i64 a0_1]) (by rfl) rfl ?_ ?_
    ·go_simp
     (try simp only [i64_w])
     try rfl
    refine hK.out _ _ ⟨gb109, gb110, m4_, m5_, (by rw [ha.out]; exact putSel_upk 0 hb_ rfl rfl rfl), Q_BK103, Q_BK104, Q_HB, Q_NB110_109, Q_NB109_110, Q_BK109, Q_GW109, Q_GE109, Q_NB103_109, Q_NB109_103, Q_NB104_109, Q_NB109_104, Q_BK110, Q_GW110, Q_GE110, Q_NB103_110, Q_NB110_103, Q_NB104_110, Q_NB110_104, fun h0_ => absurd ((hoff 6 (by kernel_rfl)).symm.trans h0_) (by decide), fun h0_ => absurd ((hoff 7 (by kernel_rfl)).symm.trans h0_) (by decide), Q_X4_, Q_X5_⟩
   refine steps_cons ?_ ?_
   ·rintro b a w' ⟨gb109, gb110, m4_, m5_, ha, Q_BK103, Q_BK104, Q_HB, Q_NB110_109, Q_NB109_110, Q_BK109, Q_GW109, Q_GE109, Q_NB103_109, Q_NB109_103, Q_NB104_109, Q_NB109_104, Q_BK110, Q_GW110, Q_GE110, Q_NB103_110, Q_NB110_103, Q_NB104_110, Q_NB110_104, Q_BK109_e6, Q_BK110_e7, Q_X4_, Q_X5_⟩ hb_ hon hoff
    refine ⟨_, rfl, fun K hK => ?_⟩
    have e7 : a.tmps[7]? = some (.agg #[.int .i64 a0_0, .int .i64 a0_1]) := by rw [ha]; exact putSel_on (e := (0, 7, .agg #[.int .i64 a0_0, .int .i64 a0_1])) 0 rfl rfl (hon 0 (by kernel_rfl)) rfl
    replace ha := Aside0.mk ha
    have BK103 := Aside0.mk Q_BK103
    have BK104 := Aside0.mk Q_BK104
    have HB := Aside0.mk Q_HB
    refine goes_ Tryd.func21 (by kernel_rfl) rfl #[.agg #[.int .i64 a0_0, .int .i64 a0_1]] (by rfl) rfl rfl (by first | (simp only [List.map_toArray, List.map_cons, List.map_nil, Act.eval, Array.getD_eq_getD_getElem?, Option.getD_some, e7]; done) | (simp only [List.map_toArray, List.map_cons, List.map_nil, Act.eval, Array.getD_eq_getD_getElem?, Option.getD_some, e7]; rfl)) ?_
    with_reducible refine (acceptor_pair.calls a0_0 a0_1 t105 t106 _ A3.out).mono ?_
    rintro e w68 ⟨rfl, hb⟩
    refine ⟨_, rfl, ?_⟩
    have n0_ := Aside0.mk (nb BK103.out hb)
    have n1_ := Aside0.mk (nb BK104.out hb)
    have n2_ := Aside0.mk (below_step bw hb)
    have z_BK109 := fun (h0_ : b 4 = true) (h1_ : b 6 = false) => (show w68.heap[gb109]? = some (.cells #[.int .i64 0, .int .i64 0] 59 (0, 0)) from by first | exact (blk_below (g := gb109) (o := .cells #[.int .i64 0, .int .i64 0] 59 (0, 0)) (by (with_reducible repeat (first | refine blk_drewN ?_ _ | refine blk_drew ?_ | refine blk_alloc ?_ _)); exact (Q_BK109 h0_ h1_)) hb))
    have z_BK110 := fun (h0_ : b 5 = true) (h1_ : b 7 = false) => (show w68.heap[gb110]? = some (.cells #[.int .i64 0, .int .i64 0] 59 (0, 0)) from by first | exact (blk_below (g := gb110) (o := .cells #[.int .i64 0, .int .i64 0] 59 (0, 0)) (by (with_reducible repeat (first | refine blk_drewN ?_ _ | refine blk_drew ?_ | refine blk_alloc ?_ _)); exact (Q_BK110 h0_ h1_)) hb))
    clear BK103
    clear BK104
    clear HB
    have BK103 := n0_
    have BK104 := n1_
    have HB := n2_
    clear n0_ n1_ n2_
    (try clear hb)
    (try clear hb2)
    (try clear hk)
    (try clear hi)
    refine hK.out _ _ ⟨gb109, gb110, m4_, m5_, (by rw [ha.out]; exact putSel_upk 1 hb_ rfl rfl rfl), (bk BK103.out), (bk BK104.out), bw, Q_NB110_109, Q_NB109_110, z_BK109, Q_GW109, Q_GE109, Q_NB103_109, Q_NB109_103, Q_NB104_109, Q_NB109_104, z_BK110, Q_GW110, Q_GE110, Q_NB103_110, Q_NB110_103, Q_NB104_110, Q_NB110_104, fun h0_ => absurd ((hoff 6 (by kernel_rfl)).symm.trans h0_) (by decide), fun h0_ => absurd ((hoff 7 (by kernel_rfl)).symm.trans h0_) (by decide), Q_X4_, Q_X5_⟩
   refine steps_cons ?_ ?_
   ·rintro b a w' ⟨gb109, gb110, m4_, m5_, ha, Q_BK103, Q_BK104, Q_HB, Q_NB110_109, Q_NB109_110, Q_BK109, Q_GW109, Q_GE109, Q_NB103_109, Q_NB109_103, Q_NB104_109, Q_NB109_104, Q_BK110, Q_GW110, Q_GE110, Q_NB103_110, Q_NB110_103, Q_NB104_110, Q_NB110_104, Q_BK109_e6, Q_BK110_e7, Q_X4_, Q_X5_⟩ hb_ hon hoff
    refine ⟨_, rfl, fun K hK => ?_⟩
    have e3 : a.tmps[3]? = some (.pointer (some ⟨gb104, 0, none⟩)) := by rw [ha]; exact (putSel_off rfl).trans rfl
    replace ha := Aside0.mk ha
    have BK103 := Aside0.mk Q_BK103
    have BK104 := Aside0.mk Q_BK104
    have HB := Aside0.mk Q_HB
    have hc0_ : w'.cell? ⟨gb104, 0, none⟩ = some (.int .i64 a1_0) := (blk_cell BK104.out 0).trans rfl
    have hc1_ : w'.cell? ⟨gb104, 1, none⟩ = some (.int .i64 a1_1) := (blk_cell BK104.out 1).trans rfl
    refine value_ (w1 := w') (v := .agg #[.int .i64 a1_0, .int .i64 a1_1]) (by rfl) rfl ?_ ?_
    ·go_simp
     (try simp only [i64_w])
     try rfl
    refine hK.out _ _ ⟨gb109, gb110, m4_, m5_, (by rw [ha.out]; exact putSel_upk 2 hb_ rfl rfl rfl), Q_BK103, Q_BK104, Q_HB, Q_NB110_109, Q_NB109_110, Q_BK109, Q_GW109, Q_GE109, Q_NB103_109, Q_NB109_103, Q_NB104_109, Q_NB109_104, Q_BK110, Q_GW110, Q_GE110, Q_NB103_110, Q_NB110_103, Q_NB104_110, Q_NB110_104, fun h0_ => absurd ((hoff 6 (by kernel_rfl)).symm.trans h0_) (by decide), fun h0_ => absurd ((hoff 7 (by kernel_rfl)).symm.trans h0_) (by decide), Q_X4_, Q_X5_⟩
   refine steps_cons ?_ ?_
   ·rintro b a w' ⟨gb109, gb110, m4_, m5_, ha, Q_BK103, Q_BK104, Q_HB, Q_NB110_109, Q_NB109_110, Q_BK109, Q_GW109, Q_GE109, Q_NB103_109, Q_NB109_103, Q_NB104_109, Q_NB109_104, Q_BK110, Q_GW110, Q_GE110, Q_NB103_110, Q_NB110_103, Q_NB104_110, Q_NB110_104, Q_BK109_e6, Q_BK110_e7, Q_X4_, Q_X5_⟩ hb_ hon hoff
    refine ⟨_, rfl, fun K hK => ?_⟩
    have e9 : a.tmps[9]? = some (.agg #[.int .i64 a1_0, .int .i64 a1_1]) := by rw [ha]; exact putSel_on (e := (2, 9, .agg #[.int .i64 a1_0, .int .i64 a1_1])) 2 rfl rfl (hon 2 (by kernel_rfl)) rfl
    replace ha := Aside0.mk ha
    have BK103 := Aside0.mk Q_BK103
    have BK104 := Aside0.mk Q_BK104
    have HB := Aside0.mk Q_HB
    refine goes_ Tryd.func21 (by kernel_rfl) rfl #[.agg #[.int .i64 a1_0, .int .i64 a1_1]] (by rfl) rfl rfl (by first | (simp only [List.map_toArray, List.map_cons, List.map_nil, Act.eval, Array.getD_eq_getD_getElem?, Option.getD_some, e9]; done) | (simp only [List.map_toArray, List.map_cons, List.map_nil, Act.eval, Array.getD_eq_getD_getElem?, Option.getD_some, e9]; rfl)) ?_
    with_reducible refine (acceptor_pair.calls a1_0 a1_1 t107 t108 _ A4.out).mono ?_
    rintro e w70 ⟨rfl, hb⟩
    refine ⟨_, rfl, ?_⟩
    have n0_ := Aside0.mk (nb BK103.out hb)
    have n1_ := Aside0.mk (nb BK104.out hb)
    have n2_ := Aside0.mk (below_step bw hb)
    have z_BK109 := fun (h0_ : b 4 = true) (h1_ : b 6 = false) => (show w70.heap[gb109]? = some (.cells #[.int .i64 0, .int .i64 0] 59 (0, 0)) from by first | exact (blk_below (g := gb109) (o := .cells #[.int .i64 0, .int .i64 0] 59 (0, 0)) (by (with_reducible repeat (first | refine blk_drewN ?_ _ | refine blk_drew ?_ | refine blk_alloc ?_ _)); exact (Q_BK109 h0_ h1_)) hb))
    have z_BK110 := fun (h0_ : b 5 = true) (h1_ : b 7 = false) => (show w70.heap[gb110]? = some (.cells #[.int .i64 0, .int .i64 0] 59 (0, 0)) from by first | exact (blk_below (g := gb110) (o := .cells #[.int .i64 0, .int .i64 0] 59 (0, 0)) (by (with_reducible repeat (first | refine blk_drewN ?_ _ | refine blk_drew ?_ | refine blk_alloc ?_ _)); exact (Q_BK110 h0_ h1_)) hb))
    clear BK103
    clear BK104
    clear HB
    have BK103 := n0_
    have BK104 := n1_
    have HB := n2_
    clear n0_ n1_ n2_
    (try clear hb)
    (try clear hb2)
    (try clear hk)
    (try clear hi)
    refine hK.out _ _ ⟨gb109, gb110, m4_, m5_, (by rw [ha.out]; exact putSel_upk 3 hb_ rfl rfl rfl), (bk BK103.out), (bk BK104.out), bw, Q_NB110_109, Q_NB109_110, z_BK109, Q_GW109, Q_GE109, Q_NB103_109, Q_NB109_103, Q_NB104_109, Q_NB109_104, z_BK110, Q_GW110, Q_GE110, Q_NB103_110, Q_NB110_103, Q_NB104_110, Q_NB110_104, fun h0_ => absurd ((hoff 6 (by kernel_rfl)).symm.trans h0_) (by decide), fun h0_ => absurd ((hoff 7 (by kernel_rfl)).symm.trans h0_) (by decide), Q_X4_, Q_X5_⟩
   refine steps_cons ?_ ?_
   ·rintro b a w' ⟨gb109, gb110, m4_, m5_, ha, Q_BK103, Q_BK104, Q_HB, Q_NB110_109, Q_NB109_110, Q_BK109, Q_GW109, Q_GE109, Q_NB103_109, Q_NB109_103, Q_NB104_109, Q_NB109_104, Q_BK110, Q_GW110, Q_GE110, Q_NB103_110, Q_NB110_103, Q_NB104_110, Q_NB110_104, Q_BK109_e6, Q_BK110_e7, Q_X4_, Q_X5_⟩ hb_ hon hoff
    refine ⟨_, rfl, fun K hK => ?_⟩
    replace ha := Aside0.mk ha
    have BK103 := Aside0.mk Q_BK103
    have BK104 := Aside0.mk Q_BK104
    have HB := Aside0.mk Q_HB
    refine box_step ?hg (N := 5) ?hd (cs := #[.int .i64 0, .int .i64 0]) (t := 59) ?hr ?_; (case hd => rfl); (case hg => rfl); (case hr => first | (go_simp; done) | (go_simp; rfl))
    intro gb109 hg w68 hbox hb
    have n0_ := Aside0.mk (nb BK103.out hb)
    have n1_ := Aside0.mk (nb BK104.out hb)
    have n2_ := Aside0.mk (below_step bw hb)
    have n3_ := Aside0.mk (hbox)
    have n4_ := Aside0.mk ((g1 hg bw : w.heap.size ≤ gb109))
    have n5_ := Aside0.mk ((g1 hg bw : w.heap.size ≤ gb109))
    have n6_ := Aside0.mk ((n1 hg BK103.out : gb103 ≠ gb109))
    have n7_ := Aside0.mk ((n2 hg BK103.out : gb109 ≠ gb103))
    have n8_ := Aside0.mk ((n1 hg BK104.out : gb104 ≠ gb109))
    have n9_ := Aside0.mk ((n2 hg BK104.out : gb109 ≠ gb104))
    have z_NB110_109 := fun (h0_ : up b 4 4 = true) (h1_ : up b 4 5 = true) => (show gb110 ≠ gb109 from ((by rw [hg]; exact Nat.ne_of_lt (blk_lt (g := gb110) (o := .cells #[.int .i64 0, .int .i64 0] 59 (0, 0)) (by (with_reducible repeat (first | refine blk_drewN ?_ _ | refine blk_drew ?_ | refine blk_alloc ?_ _)); (first | exact BK110.out | exact Q_BK110 (by first | exact h0_ | exact h1_ | exact (up_ne (by decide)).symm.trans h0_ | exact (up_ne (by decide)).symm.trans h1_) (hoff _ (by kernel_rfl))))) : gb110 ≠ gb109)))
    have z_NB109_110 := fun (h0_ : up b 4 4 = true) (h1_ : up b 4 5 = true) => (show gb109 ≠ gb110 from ((by rw [hg]; exact Nat.ne_of_gt (blk_lt (g := gb110) (o := .cells #[.int .i64 0, .int .i64 0] 59 (0, 0)) (by (with_reducible repeat (first | refine blk_drewN ?_ _ | refine blk_drew ?_ | refine blk_alloc ?_ _)); (first | exact BK110.out | exact Q_BK110 (by first | exact h0_ | exact h1_ | exact (up_ne (by decide)).symm.trans h0_ | exact (up_ne (by decide)).symm.trans h1_) (hoff _ (by kernel_rfl))))) : gb109 ≠ gb110)))
    have z_BK110 := fun (h0_ : b 5 = true) (h1_ : b 7 = false) => (show w68.heap[gb110]? = some (.cells #[.int .i64 0, .int .i64 0] 59 (0, 0)) from by first | exact (blk_below (g := gb110) (o := .cells #[.int .i64 0, .int .i64 0] 59 (0, 0)) (by (with_reducible repeat (first | refine blk_drewN ?_ _ | refine blk_drew ?_ | refine blk_alloc ?_ _)); exact (Q_BK110 h0_ h1_)) hb))
    clear BK103
    clear BK104
    clear HB
    have BK103 := n0_
    have BK104 := n1_
    have HB := n2_
    have BK109 := n3_
    have GW109 := n4_
    have GE109 := n5_
    have NB103_109 := n6_
    have NB109_103 := n7_
    have NB104_109 := n8_
    have NB109_104 := n9_
    clear n0_ n1_ n2_ n3_ n4_ n5_ n6_ n7_ n8_ n9_
    clear hb hbox hg
    refine hK.out _ _ ⟨gb109, gb110, (.pointer (some ⟨gb109, 0, none⟩)), m5_, (by rw [ha.out]; exact putSel_upk 4 hb_ rfl rfl rfl), (bk BK103.out), (bk BK104.out), bw, z_NB110_109, z_NB109_110, fun _ _ => (bk BK109.out), fun _ => GW109.out, fun _ => GE109.out, fun _ => NB103_109.out, fun _ => NB109_103.out, fun _ => NB104_109.out, fun _ => NB109_104.out, z_BK110, Q_GW110, Q_GE110, Q_NB103_110, Q_NB110_103, Q_NB104_110, Q_NB110_104, fun h0_ => absurd ((hoff 6 (by kernel_rfl)).symm.trans h0_) (by decide), fun h0_ => absurd ((hoff 7 (by kernel_rfl)).symm.trans h0_) (by decide), fun _ => rfl, Q_X5_⟩
   refine steps_cons ?_ ?_
   ·rintro b a w' ⟨gb109, gb110, m4_, m5_, ha, Q_BK103, Q_BK104, Q_HB, Q_NB110_109, Q_NB109_110, Q_BK109, Q_GW109, Q_GE109, Q_NB103_109, Q_NB109_103, Q_NB104_109, Q_NB109_104, Q_BK110, Q_GW110, Q_GE110, Q_NB103_110, Q_NB110_103, Q_NB104_110, Q_NB110_104, Q_BK109_e6, Q_BK110_e7, Q_X4_, Q_X5_⟩ hb_ hon hoff
    refine ⟨_, rfl, fun K hK => ?_⟩
    replace ha := Aside0.mk ha
    have BK103 := Aside0.mk Q_BK103
    have BK104 := Aside0.mk Q_BK104
    have HB := Aside0.mk Q_HB
    refine box_step ?hg (N := 6) ?hd (cs := #[.int .i64 0, .int .i64 0]) (t := 59) ?hr ?_; (case hd => rfl); (case hg => rfl); (case hr => first | (go_simp; done) | (go_simp; rfl))
    intro gb110 hg w68 hbox hb
    have n0_ := Aside0.mk (nb BK103.out hb)
    have n1_ := Aside0.mk (nb BK104.out hb)
    have n2_ := Aside0.mk (below_step bw hb)
    have n3_ := Aside0.mk (hbox)
    have n4_ := Aside0.mk ((g1 hg bw : w.heap.size ≤ gb110))
    have n5_ := Aside0.mk ((g1 hg bw : w.heap.size ≤ gb110))
    have n6_ := Aside0.mk ((n1 hg BK103.out : gb103 ≠ gb110))
    have n7_ := Aside0.mk ((n2 hg BK103.out : gb110 ≠ gb103))
    have n8_ := Aside0.mk ((n1 hg BK104.out : gb104 ≠ gb110))
    have n9_ := Aside0.mk ((n2 hg BK104.out : gb110 ≠ gb104))
    have z_NB110_109 := fun (h0_ : up b 5 4 = true) (h1_ : up b 5 5 = true) => (show gb110 ≠ gb109 from ((by rw [hg]; exact Nat.ne_of_gt (blk_lt (g := gb109) (o := .cells #[.int .i64 0, .int .i64 0] 59 (0, 0)) (by (with_reducible repeat (first | refine blk_drewN ?_ _ | refine blk_drew ?_ | refine blk_alloc ?_ _)); (first | exact BK109.out | exact Q_BK109 (by first | exact h0_ | exact h1_ | exact (up_ne (by decide)).symm.trans h0_ | exact (up_ne (by decide)).symm.trans h1_) (hoff _ (by kernel_rfl))))) : gb110 ≠ gb109)))
    have z_NB109_110 := fun (h0_ : up b 5 4 = true) (h1_ : up b 5 5 = true) => (show gb109 ≠ gb110 from ((by rw [hg]; exact Nat.ne_of_lt (blk_lt (g := gb109) (o := .cells #[.int .i64 0, .int .i64 0] 59 (0, 0)) (by (with_reducible repeat (first | refine blk_drewN ?_ _ | refine blk_drew ?_ | refine blk_alloc ?_ _)); (first | exact BK109.out | exact Q_BK109 (by first | exact h0_ | exact h1_ | exact (up_ne (by decide)).symm.trans h0_ | exact (up_ne (by decide)).symm.trans h1_) (hoff _ (by kernel_rfl))))) : gb109 ≠ gb110)))
    have z_BK109 := fun (h0_ : b 4 = true) (h1_ : b 6 = false) => (show w68.heap[gb109]? = some (.cells #[.int .i64 0, .int .i64 0] 59 (0, 0)) from by first | exact (blk_below (g := gb109) (o := .cells #[.int .i64 0, .int .i64 0] 59 (0, 0)) (by (with_reducible repeat (first | refine blk_drewN ?_ _ | refine blk_drew ?_ | refine blk_alloc ?_ _)); exact (Q_BK109 h0_ h1_)) hb))
    clear BK103
    clear BK104
    clear HB
    have BK103 := n0_
    have BK104 := n1_
    have HB := n2_
    have BK110 := n3_
    have GW110 := n4_
    have GE110 := n5_
    have NB103_110 := n6_
    have NB110_103 := n7_
    have NB104_110 := n8_
    have NB110_104 := n9_
    clear n0_ n1_ n2_ n3_ n4_ n5_ n6_ n7_ n8_ n9_
    clear hb hbox hg
    refine hK.out _ _ ⟨gb109, gb110, m4_, (.pointer (some ⟨gb110, 0, none⟩)), (by rw [ha.out]; exact putSel_upk 5 hb_ rfl rfl rfl), (bk BK103.out), (bk BK104.out), bw, z_NB110_109, z_NB109_110, z_BK109, Q_GW109, Q_GE109, Q_NB103_109, Q_NB109_103, Q_NB104_109, Q_NB109_104, fun _ _ => (bk BK110.out), fun _ => GW110.out, fun _ => GE110.out, fun _ => NB103_110.out, fun _ => NB110_103.out, fun _ => NB104_110.out, fun _ => NB110_104.out, fun h0_ => absurd ((hoff 6 (by kernel_rfl)).symm.trans h0_) (by decide), fun h0_ => absurd ((hoff 7 (by kernel_rfl)).symm.trans h0_) (by decide), Q_X4_, fun _ => rfl⟩
   refine steps_cons ?_ ?_
   ·rintro b a w' ⟨gb109, gb110, m4_, m5_, ha, Q_BK103, Q_BK104, Q_HB, Q_NB110_109, Q_NB109_110, Q_BK109, Q_GW109, Q_GE109, Q_NB103_109, Q_NB109_103, Q_NB104_109, Q_NB109_104, Q_BK110, Q_GW110, Q_GE110, Q_NB103_110, Q_NB110_103, Q_NB104_110, Q_NB110_104, Q_BK109_e6, Q_BK110_e7, Q_X4_, Q_X5_⟩ hb_ hon hoff
    refine ⟨_, rfl, fun K hK => ?_⟩
    have e5 : a.tmps[5]? = some (m4_) := by rw [ha]; exact putSel_on (e := (4, 5, m4_)) 4 rfl rfl (hon 4 (by kernel_rfl)) rfl
    rw [Q_X4_ (hon 4 (by kernel_rfl))] at e5
    have e8 : a.tmps[8]? = some (.agg #[.int .i64 t105, .int .i64 t106]) := by rw [ha]; exact putSel_on (e := (1, 8, .agg #[.int .i64 t105, .int .i64 t106])) 1 rfl rfl (hon 1 (by kernel_rfl)) rfl
    replace ha := Aside0.mk ha
    have BK103 := Aside0.mk Q_BK103
    have BK104 := Aside0.mk Q_BK104
    have HB := Aside0.mk Q_HB
    have NB110_109 := Aside0.mk (Q_NB110_109 (hon 4 (by kernel_rfl)) (hon 5 (by kernel_rfl)))
    have NB109_110 := Aside0.mk (Q_NB109_110 (hon 4 (by kernel_rfl)) (hon 5 (by kernel_rfl)))
    have BK109 := Aside0.mk (Q_BK109 (hon 4 (by kernel_rfl)) hb_)
    have GW109 := Aside0.mk (Q_GW109 (hon 4 (by kernel_rfl)))
    have GE109 := Aside0.mk (Q_GE109 (hon 4 (by kernel_rfl)))
    have NB103_109 := Aside0.mk (Q_NB103_109 (hon 4 (by kernel_rfl)))
    have NB109_103 := Aside0.mk (Q_NB109_103 (hon 4 (by kernel_rfl)))
    have NB104_109 := Aside0.mk (Q_NB104_109 (hon 4 (by kernel_rfl)))
    have NB109_104 := Aside0.mk (Q_NB109_104 (hon 4 (by kernel_rfl)))
    have BK110 := Aside0.mk (Q_BK110 (hon 5 (by kernel_rfl)) (hoff 7 (by kernel_rfl)))
    have GW110 := Aside0.mk (Q_GW110 (hon 5 (by kernel_rfl)))
    have GE110 := Aside0.mk (Q_GE110 (hon 5 (by kernel_rfl)))
    have NB103_110 := Aside0.mk (Q_NB103_110 (hon 5 (by kernel_rfl)))
    have NB110_103 := Aside0.mk (Q_NB110_103 (hon 5 (by kernel_rfl)))
    have NB104_110 := Aside0.mk (Q_NB104_110 (hon 5 (by kernel_rfl)))
    have NB110_104 := Aside0.mk (Q_NB110_104 (hon 5 (by kernel_rfl)))
    have hs73 : w'.cell? ⟨gb109, 0, none⟩ = some (.int .i64 0) := (blk_cell BK109.out 0).trans rfl
    have hfs73 := blk_frozen BK109.out 0
    have hns73_0 := NB103_109.out
    have hns73_1 := NB104_109.out
    have hns73_3 := NB110_109.out
    have hms73_0 := NB109_103.out
    have hms73_1 := NB109_104.out
    have hms73_3 := NB109_110.out
    have hs74 : w'.cell? ⟨gb109, 1, none⟩ = some (.int .i64 0) := (blk_cell BK109.out 1).trans rfl
    have hfs74 := blk_frozen BK109.out 1
    have hns74_0 := NB103_109.out
    have hns74_1 := NB104_109.out
    have hns74_3 := NB110_109.out
    have hms74_0 := NB109_103.out
    have hms74_1 := NB109_104.out
    have hms74_3 := NB109_110.out
    refine skip_ (w1 := ?_) (by rfl) rfl ?_ ?_
    rotate_left
    ·go_simp
     rfl
    refine hK.out _ _ ⟨gb109, gb110, m4_, m5_, (by rw [ha.out]; exact putSel_none (v := undef) rfl), (by (with_reducible repeat (first | refine blk_drewN ?_ _ | refine blk_drew ?_ | refine blk_alloc ?_ _ | refine blk_far ?_ NB103_109.out _)); exact BK103.out), (by (with_reducible repeat (first | refine blk_drewN ?_ _ | refine blk_drew ?_ | refine blk_alloc ?_ _ | refine blk_far ?_ NB104_109.out _)); exact BK104.out), bw, fun _ _ => NB110_109.out, fun _ _ => NB109_110.out, fun _ h1_ => absurd ((up_self b 6).symm.trans h1_) (by decide), fun _ => GW109.out, fun _ => GE109.out, fun _ => NB103_109.out, fun _ => NB109_103.out, fun _ => NB104_109.out, fun _ => NB109_104.out, fun _ _ => (by (with_reducible repeat (first | refine blk_drewN ?_ _ | refine blk_drew ?_ | refine blk_alloc ?_ _ | refine blk_far ?_ NB110_109.out _)); exact BK110.out), fun _ => GW110.out, fun _ => GE110.out, fun _ => NB103_110.out, fun _ => NB110_103.out, fun _ => NB104_110.out, fun _ => NB110_104.out, fun _ => (by (with_reducible repeat (first | refine blk_drewN ?_ _ | refine blk_drew ?_ | refine blk_alloc ?_ _)); refine blk_put (cs := #[.int .i64 t105, .int .i64 0]) ?_ 1 _ rfl; (with_reducible repeat (first | refine blk_drewN ?_ _ | refine blk_drew ?_ | refine blk_alloc ?_ _)); refine blk_put (cs := #[.int .i64 0, .int .i64 0]) ?_ 0 _ rfl; (with_reducible repeat (first | refine blk_drewN ?_ _ | refine blk_drew ?_ | refine blk_alloc ?_ _)); exact BK109.out), fun h0_ => absurd ((hoff 7 (by kernel_rfl)).symm.trans h0_) (by decide), Q_X4_, Q_X5_⟩
   refine steps_cons ?_ ?_
   ·rintro b a w' ⟨gb109, gb110, m4_, m5_, ha, Q_BK103, Q_BK104, Q_HB, Q_NB110_109, Q_NB109_110, Q_BK109, Q_GW109, Q_GE109, Q_NB103_109, Q_NB109_103, Q_NB104_109, Q_NB109_104, Q_BK110, Q_GW110, Q_GE110, Q_NB103_110, Q_NB110_103, Q_NB104_110, Q_NB110_104, Q_BK109_e6, Q_BK110_e7, Q_X4_, Q_X5_⟩ hb_ hon hoff
    refine ⟨_, rfl, fun K hK => ?_⟩
    have e6 : a.tmps[6]? = some (m5_) := by rw [ha]; exact putSel_on (e := (5, 6, m5_)) 5 rfl rfl (hon 5 (by kernel_rfl)) rfl
    rw [Q_X5_ (hon 5 (by kernel_rfl))] at e6
    have e10 : a.tmps[10]? = some (.agg #[.int .i64 t107, .int .i64 t108]) := by rw [ha]; exact putSel_on (e := (3, 10, .agg #[.int .i64 t107, .int .i64 t108])) 3 rfl rfl (hon 3 (by kernel_rfl)) rfl
    replace ha := Aside0.mk ha
    have BK103 := Aside0.mk Q_BK103
    have BK104 := Aside0.mk Q_BK104
    have HB := Aside0.mk Q_HB
    have NB110_109 := Aside0.mk (Q_NB110_109 (hon 4 (by kernel_rfl)) (hon 5 (by kernel_rfl)))
    have NB109_110 := Aside0.mk (Q_NB109_110 (hon 4 (by kernel_rfl)) (hon 5 (by kernel_rfl)))
    have GW109 := Aside0.mk (Q_GW109 (hon 4 (by kernel_rfl)))
    have GE109 := Aside0.mk (Q_GE109 (hon 4 (by kernel_rfl)))
    have NB103_109 := Aside0.mk (Q_NB103_109 (hon 4 (by kernel_rfl)))
    have NB109_103 := Aside0.mk (Q_NB109_103 (hon 4 (by kernel_rfl)))
    have NB104_109 := Aside0.mk (Q_NB104_109 (hon 4 (by kernel_rfl)))
    have NB109_104 := Aside0.mk (Q_NB109_104 (hon 4 (by kernel_rfl)))
    have BK110 := Aside0.mk (Q_BK110 (hon 5 (by kernel_rfl)) hb_)
    have GW110 := Aside0.mk (Q_GW110 (hon 5 (by kernel_rfl)))
    have GE110 := Aside0.mk (Q_GE110 (hon 5 (by kernel_rfl)))
    have NB103_110 := Aside0.mk (Q_NB103_110 (hon 5 (by kernel_rfl)))
    have NB110_103 := Aside0.mk (Q_NB110_103 (hon 5 (by kernel_rfl)))
    have NB104_110 := Aside0.mk (Q_NB104_110 (hon 5 (by kernel_rfl)))
    have NB110_104 := Aside0.mk (Q_NB110_104 (hon 5 (by kernel_rfl)))
    have BK109 := Aside0.mk (Q_BK109_e6 (hon 6 (by kernel_rfl)))
    have hs75 : w'.cell? ⟨gb110, 0, none⟩ = some (.int .i64 0) := (blk_cell BK110.out 0).trans rfl
    have hfs75 := blk_frozen BK110.out 0
    have hns75_0 := NB103_110.out
    have hns75_1 := NB104_110.out
    have hns75_2 := NB109_110.out
    have hms75_0 := NB110_103.out
    have hms75_1 := NB110_104.out
    have hms75_2 := NB110_109.out
    have hs76 : w'.cell? ⟨gb110, 1, none⟩ = some (.int .i64 0) := (blk_cell BK110.out 1).trans rfl
    have hfs76 := blk_frozen BK110.out 1
    have hns76_0 := NB103_110.out
    have hns76_1 := NB104_110.out
    have hns76_2 := NB109_110.out
    have hms76_0 := NB110_103.out
    have hms76_1 := NB110_104.out
    have hms76_2 := NB110_109.out
    refine skip_ (w1 := ?_) (by rfl) rfl ?_ ?_
    rotate_left
    ·go_simp
     rfl
    refine hK.out _ _ ⟨gb109, gb110, m4_, m5_, (by rw [ha.out]; exact putSel_none (v := undef) rfl), (by (with_reducible repeat (first | refine blk_drewN ?_ _ | refine blk_drew ?_ | refine blk_alloc ?_ _ | refine blk_far ?_ NB103_110.out _)); exact BK103.out), (by (with_reducible repeat (first | refine blk_drewN ?_ _ | refine blk_drew ?_ | refine blk_alloc ?_ _ | refine blk_far ?_ NB104_110.out _)); exact BK104.out), bw, fun _ _ => NB110_109.out, fun _ _ => NB109_110.out, fun _ h1_ => absurd ((hon 6 (by kernel_rfl)).symm.trans h1_) (by decide), fun _ => GW109.out, fun _ => GE109.out, fun _ => NB103_109.out, fun _ => NB109_103.out, fun _ => NB104_109.out, fun _ => NB109_104.out, fun _ h1_ => absurd ((up_self b 7).symm.trans h1_) (by decide), fun _ => GW110.out, fun _ => GE110.out, fun _ => NB103_110.out, fun _ => NB110_103.out, fun _ => NB104_110.out, fun _ => NB110_104.out, fun _ => (by (with_reducible repeat (first | refine blk_drewN ?_ _ | refine blk_drew ?_ | refine blk_alloc ?_ _ | refine blk_far ?_ NB109_110.out _)); exact BK109.out), fun _ => (by (with_reducible repeat (first | refine blk_drewN ?_ _ | refine blk_drew ?_ | refine blk_alloc ?_ _)); refine blk_put (cs := #[.int .i64 t107, .int .i64 0]) ?_ 1 _ rfl; (with_reducible repeat (first | refine blk_drewN ?_ _ | refine blk_drew ?_ | refine blk_alloc ?_ _)); refine blk_put (cs := #[.int .i64 0, .int .i64 0]) ?_ 0 _ rfl; (with_reducible repeat (first | refine blk_drewN ?_ _ | refine blk_drew ?_ | refine blk_alloc ?_ _)); exact BK110.out), Q_X4_, Q_X5_⟩
   exact steps_nil
  rintro b a w76 hall ⟨gb109, gb110, m4_, m5_, ha, Q_BK103, Q_BK104, Q_HB, Q_NB110_109, Q_NB109_110, Q_BK109, Q_GW109, Q_GE109, Q_NB103_109, Q_NB109_103, Q_NB104_109, Q_NB109_104, Q_BK110, Q_GW110, Q_GE110, Q_NB103_110, Q_NB110_103, Q_NB104_110, Q_NB110_104, Q_BK109_e6, Q_BK110_e7, Q_X4_, Q_X5_⟩
  clear BK103 BK104 HB
  have hb0_ := hall 0 (by kernel_rfl)
  have hb1_ := hall 1 (by kernel_rfl)
  have hb2_ := hall 2 (by kernel_rfl)
  have hb3_ := hall 3 (by kernel_rfl)
  have hb4_ := hall 4 (by kernel_rfl)
  have hb5_ := hall 5 (by kernel_rfl)
  have hb6_ := hall 6 (by kernel_rfl)
  have hb7_ := hall 7 (by kernel_rfl)
  subst ha
  obtain rfl := Q_X4_ hb4_
  obtain rfl := Q_X5_ hb5_
  simp only [putSel, hb0_, hb1_, hb2_, hb3_, hb4_, hb5_, hb6_, hb7_, if_true, Act.put, sl1, sl2, sl3]
  have BK103 := Aside0.mk Q_BK103
  clear Q_BK103
  have BK104 := Aside0.mk Q_BK104
  clear Q_BK104
  have HB := Aside0.mk Q_HB
  clear Q_HB
  have NB110_109 := Aside0.mk (Q_NB110_109 hb4_ hb5_)
  clear Q_NB110_109
  have NB109_110 := Aside0.mk (Q_NB109_110 hb4_ hb5_)
  clear Q_NB109_110
  clear Q_BK109
  have GW109 := Aside0.mk (Q_GW109 hb4_)
  clear Q_GW109
  have GE109 := Aside0.mk (Q_GE109 hb4_)
  clear Q_GE109
  have NB103_109 := Aside0.mk (Q_NB103_109 hb4_)
  clear Q_NB103_109
  have NB109_103 := Aside0.mk (Q_NB109_103 hb4_)
  clear Q_NB109_103
  have NB104_109 := Aside0.mk (Q_NB104_109 hb4_)
  clear Q_NB104_109
  have NB109_104 := Aside0.mk (Q_NB109_104 hb4_)
  clear Q_NB109_104
  clear Q_BK110
  have GW110 := Aside0.mk (Q_GW110 hb5_)
  clear Q_GW110
  have GE110 := Aside0.mk (Q_GE110 hb5_)
  clear Q_GE110
  have NB103_110 := Aside0.mk (Q_NB103_110 hb5_)
  clear Q_NB103_110
  have NB110_103 := Aside0.mk (Q_NB110_103 hb5_)
  clear Q_NB110_103
  have NB104_110 := Aside0.mk (Q_NB104_110 hb5_)
  clear Q_NB104_110
  have NB110_104 := Aside0.mk (Q_NB110_104 hb5_)
  clear Q_NB110_104
  have BK109 := Aside0.mk (Q_BK109_e6 hb6_)
  clear Q_BK109_e6
  have BK110 := Aside0.mk (Q_BK110_e7 hb7_)
  clear Q_BK110_e7
  clear hall hb0_ hb1_ hb2_ hb3_ hb4_ hb5_ hb6_ hb7_
  have hnb77 := NB109_103.out
  have hnc77 := NB103_109.out
  have hnb78 := NB109_104.out
  have hnc78 := NB104_109.out
  have hnb79 := NB109_110.out
  have hnc79 := NB110_109.out
  have hcz80_0 := bc2_0 BK109.out
  have hcz80_1 := bc2_1 BK109.out
  have hfz80_0 := blk_frozen BK109.out 0
  have hfz80_1 := blk_frozen BK109.out 1
  have hnb81 := NB110_103.out
  have hnc81 := NB103_110.out
  have hnb82 := NB110_104.out
  have hnc82 := NB104_110.out
  have hcz83_0 := bc2_0 BK110.out
  have hcz83_1 := bc2_1 BK110.out
  have hfz83_0 := blk_frozen BK110.out 0
  have hfz83_1 := blk_frozen BK110.out 1
  try go_wp2
  go_ret
  exact ⟨er, bw⟩

end Go.Proofs.YtocgbfcjmgpleaaDoor.P
