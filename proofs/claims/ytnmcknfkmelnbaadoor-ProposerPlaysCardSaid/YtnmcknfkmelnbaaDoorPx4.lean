-- Printed by this session's program wip/xp.py (a turned copy of the kit's printer): functions, their contracts.
import Derived.Test.YtnmcknfkmelnbaaDoorPx0
import Derived.Test.YtnmcknfkmelnbaaDoorPx2
import Derived.Test.YtnmcknfkmelnbaaDoorPx3
namespace Go.Proofs.YtnmcknfkmelnbaaDoor.P
open Go.RowKit Go.Proofs.YtnmcknfkmelnbaaDoorW.PrintWords Go.Proofs.YtnmcknfkmelnbaaDoorW.PrintLast Go.Proofs.YtnmcknfkmelnbaaDoorW.PrintMore
attribute [local go_sem] max2_int min2_int max_two min_two max_three min_three max_four min_four   -- for this text's walks alone
set_option linter.unusedVariables false
set_option linter.unusedSimpArgs false

attribute [local go_sem high] eqA89
/-! ### acceptor_Less: function 29 -/
def acceptor_Less.f (a0_0 : Int) (a0_1 : Int) (a1_0 : Int) (a1_1 : Int) : Option (Bool) := (acceptor_pair.f a0_0 a0_1).bind fun bt106 => ((acceptor_pair.f a1_0 a1_1).bind fun bt108 => (if (!(bt106.1 == bt108.1) || (!(bt106.2 == bt108.2))) = true then (if bt106.1 < bt108.1 then (some true) else (if bt106.1 = bt108.1 then (some (decide (bt106.2 < bt108.2))) else (some false))) else (some false)))
def acceptor_Less.T1 : Bool × List (List Nat × List Nat) := (true, [([], []), ([0], [0]), ([], []), ([2, 1], [2]), ([], []), ([], []), ([4, 1, 3, 0, 1, 4, 5], [1, 4]), ([5, 3, 6, 0, 1, 2, 3, 4, 5, 6], [3, 5])])
def acceptor_Less.B1 : List Nat := [0, 1, 0, 7, 0, 0, 63, 127]
theorem acceptor_Less.tab1 : rtab .any (opsOf Tryd.f29 1) = acceptor_Less.T1 := by kernel_rfl
theorem acceptor_Less.bits1 : waitsOk acceptor_Less.T1.2 acceptor_Less.B1 = true := by kernel_rfl
set_option maxHeartbeats 8000000 in
set_option maxRecDepth 100000 in
theorem acceptor_Less.calls (a0_0 : Int) (a0_1 : Int) (a1_0 : Int) (a1_1 : Int) (r : Bool) (w : World) (h : acceptor_Less.f a0_0 a0_1 a1_0 a1_1 = some r) :
  Calls Tryd.prog 29 #[.agg #[.int .i64 a0_0, .int .i64 a0_1], .agg #[.int .i64 a1_0, .int .i64 a1_1]] w fun e w' => e = .returned (.bool r) ∧ Below w.heap.size w w' := by
 have hu23 := Tryd.underlying23
 have hu89 := Tryd.underlying89
 have HB := Aside0.mk (Below.refl w.heap.size w)
 have H : ((acceptor_pair.f a0_0 a0_1).bind fun bt106 => ((acceptor_pair.f a1_0 a1_1).bind fun bt108 => (if (!(bt106.1 == bt108.1) || (!(bt106.2 == bt108.2))) = true then (if bt106.1 < bt108.1 then (some true) else (if bt106.1 = bt108.1 then (some (decide (bt106.2 < bt108.2))) else (some false))) else (some false)))) = some r := h
 clear h
 replace H := Option.bind_eq_some_iff.mp H
 obtain ⟨⟨t106, t107⟩, A30, H⟩ := H
 replace H : ((acceptor_pair.f a1_0 a1_1).bind fun bt108 => (if (!(t106 == bt108.1) || (!(t107 == bt108.2))) = true then (if t106 < bt108.1 then (some true) else (if t106 = bt108.1 then (some (decide (t107 < bt108.2))) else (some false))) else (some false))) = some r := H
 have A3 := Aside0.mk A30
 clear A30
 replace H := Option.bind_eq_some_iff.mp H
 obtain ⟨⟨t108, t109⟩, A40, H⟩ := H
 replace H : (if (!(t106 == t108) || (!(t107 == t109))) = true then (if t106 < t108 then (some true) else (if t106 = t108 then (some (decide (t107 < t109))) else (some false))) else (some false)) = some r := H
 have A4 := Aside0.mk A40
 clear A40
 by_cases c5 : (!(t106 == t108) || (!(t107 == t109))) = true; rotate_left
 ·rw [if_neg c5] at H
  have b2 : (!(t106 == t108) || (!(t107 == t109))) = false := by simpa using c5
  (try (have c5b1 : (t106 == t108 && (t107 == t109)) = true := by have e_ : (t106 == t108 && (t107 == t109)) = (!(!(t106 == t108) || (!(t107 == t109)))) := (by simp only [Bool.not_or, Bool.not_and, Bool.not_not]); rw [e_]; first | (simp only [c5, Bool.not_true]; done) | (simp only [Bool.eq_false_iff.mpr c5, Bool.not_false]; done)))
  clear c5
  obtain rfl := Option.some.inj H
  go_enter Tryd.func29, Tryd.ntmps29
  try go_wp2_with (first | ((with_reducible refine gate_dst (N := 2) rfl ?_); refine box_event ?hg (N := 2) ?hd (cs := #[.int .i64 a0_0, .int .i64 a0_1]) (t := 23) ?hr ?_; (case hd => rfl); (case hg => rfl); (case hr => first | (go_simp; done) | (go_simp; rfl)); intro bd hg w65 hbox hb; have n0_ := Aside0.mk (below_step bw hb); have n1_ := Aside0.mk (hbox); have n2_ := Aside0.mk ((g1 hg bw : w.heap.size ≤ bd)); have n3_ := Aside0.mk ((g1 hg bw : w.heap.size ≤ bd)); clear HB; have HB := n0_; have an := n1_; have bv := n2_; have bx := n3_; clear n0_ n1_ n2_ n3_; clear hb hbox hg) | ((with_reducible refine gate_dst (N := 3) rfl ?_); refine box_event ?hg (N := 3) ?hd (cs := #[.int .i64 a1_0, .int .i64 a1_1]) (t := 23) ?hr ?_; (case hd => rfl); (case hg => rfl); (case hr => first | (go_simp; done) | (go_simp; rfl)); intro be hg w66 hbox hb; have n0_ := Aside0.mk (nb an.out hb); have n1_ := Aside0.mk (below_step bw hb); have n2_ := Aside0.mk (hbox); have n3_ := Aside0.mk ((g1 hg bw : w.heap.size ≤ be)); have n4_ := Aside0.mk ((g1 hg bw : w.heap.size ≤ be)); have n5_ := Aside0.mk ((n1 hg an.out : bd ≠ be)); have n6_ := Aside0.mk ((n2 hg an.out : be ≠ bd)); clear an; clear HB; have an := n0_; have HB := n1_; have ao := n2_; have b0 := n3_; have b1 := n4_; have br := n5_; have bs := n6_; clear n0_ n1_ n2_ n3_ n4_ n5_ n6_; clear hb hbox hg))
  have n0_ := Aside0.mk (blk_drew an.out)
  have n1_ := Aside0.mk (blk_drew ao.out)
  have n2_ := Aside0.mk (below_drew1 HB.out)
  clear an
  clear ao
  clear HB
  have an := n0_
  have ao := n1_
  have HB := n2_
  clear n0_ n1_ n2_
  refine start_ (n := 8) (S := fun w' => True) (ds := []) (bz 8 0) (by kernel_rfl) rfl rfl trivial (fun hHeld => ?_); refine with_tabW acceptor_Less.tab1 acceptor_Less.bits1 (fun HT_ HW_ => ?_)
  generalize w66.drew = w67 at an ao HB hHeld ⊢
  refine inv_at [0, 1, 2, 3, 4, 5, 6, 7] (fun a0_ b a w' => ∃ (aa : Nat) (ab : Nat) (m4_ : Value) (m5_ : Value), a = putSel a0_ b [(0, 7, .agg #[.int .i64 a0_0, .int .i64 a0_1]), (1, 8, .agg #[.int .i64 t106, .int .i64 t107]), (2, 9, .agg #[.int .i64 a1_0, .int .i64 a1_1]), (3, 10, .agg #[.int .i64 t108, .int .i64 t109]), (4, 5, m4_), (5, 6, m5_)] ∧ (w'.heap[bd]? = some (.cells #[.int .i64 a0_0, .int .i64 a0_1] 23 (0, 0))) ∧ (w'.heap[be]? = some (.cells #[.int .i64 a1_0, .int .i64 a1_1] 23 (0, 0))) ∧ (Below w.heap.size w w') ∧ (b 4 = true → b 5 = true → ab ≠ aa) ∧ (b 4 = true → b 5 = true → aa ≠ ab) ∧ (b 4 = true → b 6 = false → w'.heap[aa]? = some (.cells #[.int .i64 0, .int .i64 0] 89 (0, 0))) ∧ (b 4 = true → w.heap.size ≤ aa) ∧ (b 4 = true → w.heap.size ≤ aa) ∧ (b 4 = true → bd ≠ aa) ∧ (b 4 = true → aa ≠ bd) ∧ (b 4 = true → be ≠ aa) ∧ (b 4 = true → aa ≠ be) ∧ (b 5 = true → b 7 = false → w'.heap[ab]? = some (.cells #[.int .i64 0, .int .i64 0] 89 (0, 0))) ∧ (b 5 = true → w.heap.size ≤ ab) ∧ (b 5 = true → w.heap.size ≤ ab) ∧ (b 5 = true → bd ≠ ab) ∧ (b 5 = true → ab ≠ bd) ∧ (b 5 = true → be ≠ ab) ∧ (b 5 = true → ab ≠ be) ∧ (b 6 = true → w'.heap[aa]? = some (.cells #[.int .i64 t106, .int .i64 t107] 89 (0, 0))) ∧ (b 7 = true → w'.heap[ab]? = some (.cells #[.int .i64 t108, .int .i64 t109] 89 (0, 0))) ∧ (b 4 = true → (m4_ : Value) = .pointer (some ⟨aa, 0, none⟩)) ∧ (b 5 = true → (m5_ : Value) = .pointer (some ⟨ab, 0, none⟩))) HT_.out HW_.out (by kernel_rfl) (by kernel_rfl) ?_ ?_ ?_
  ·exact ⟨0, 0, .bool false, .bool false, by simp only [putSel, Bool.false_eq_true, if_false], an.out, ao.out, HB.out, fun h_ => absurd h_ (by decide), fun h_ => absurd h_ (by decide), fun h_ => absurd h_ (by decide), fun h_ => absurd h_ (by decide), fun h_ => absurd h_ (by decide), fun h_ => absurd h_ (by decide), fun h_ => absurd h_ (by decide), fun h_ => absurd h_ (by decide), fun h_ => absurd h_ (by decide), fun h_ => absurd h_ (by decide), fun h_ => absurd h_ (by decide), fun h_ => absurd h_ (by decide), fun h_ => absurd h_ (by decide), fun h_ => absurd h_ (by decide), fun h_ => absurd h_ (by decide), fun h_ => absurd h_ (by decide), fun h_ => absurd h_ (by decide), fun h_ => absurd h_ (by decide), fun h_ => absurd h_ (by decide), fun h_ => absurd h_ (by decide)⟩
  ·skip
   clear an ao HB
   refine steps_cons ?_ ?_
   ·rintro b a w' ⟨aa, ab, m4_, m5_, ha, ap, aq, bf, ak, al, av, aw, ax, ac, ad, ae, af, au, ay, az, ag, ah, ai, aj, ar, a0, bb, bc⟩ hb_ hon hoff
    refine ⟨_, rfl, fun K hK => ?_⟩
    have e2 : a.tmps[2]? = some (.pointer (some ⟨bd, 0, none⟩)) := by rw [ha]; exact (putSel_off rfl).trans rfl
    replace ha := Aside0.mk ha
    have an := Aside0.mk ap
    have ao := Aside0.mk aq
    have HB := Aside0.mk bf
    have hc0_ : w'.cell? ⟨bd, 0, none⟩ = some (.int .i64 a0_0) := (blk_cell an.out 0).trans rfl
    have hc1_ : w'.cell? ⟨bd, 1, none⟩ = some (.int .i64 a0_1) := (blk_cell an.out 1).trans rfl
    refine value_ (w1 := w') (v := .agg #[.int .i64 a0_0, .int .i64 a0_1]) (by rfl) rfl ?_ ?_
    ·go_simp
     (try simp only [i64_w])
     try rfl
    refine hK.out _ _ ⟨aa, ab, m4_, m5_, (by rw [ha.out]; exact putSel_upk 0 hb_ rfl rfl rfl), ap, aq, bf, ak, al, av, aw, ax, ac, ad, ae, af, au, ay, az, ag, ah, ai, aj, fun h0_ => absurd ((hoff 6 (by kernel_rfl)).symm.trans h0_) (by decide), fun h0_ => absurd ((hoff 7 (by kernel_rfl)).symm.trans h0_) (by decide), bb, bc⟩
   refine steps_cons ?_ ?_
   ·rintro b a w' ⟨aa, ab, m4_, m5_, ha, ap, aq, bf, ak, al, av, aw, ax, ac, ad, ae, af, au, ay, az, ag, ah, ai, aj, ar, a0, bb, bc⟩ hb_ hon hoff
    refine ⟨_, rfl, fun K hK => ?_⟩
    have e7 : a.tmps[7]? = some (.agg #[.int .i64 a0_0, .int .i64 a0_1]) := by rw [ha]; exact putSel_on (e := (0, 7, .agg #[.int .i64 a0_0, .int .i64 a0_1])) 0 rfl rfl (hon 0 (by kernel_rfl)) rfl
    replace ha := Aside0.mk ha
    have an := Aside0.mk ap
    have ao := Aside0.mk aq
    have HB := Aside0.mk bf
    refine goes_ Tryd.func39 (by kernel_rfl) rfl #[.agg #[.int .i64 a0_0, .int .i64 a0_1]] (by rfl) rfl rfl (by first | (simp only [List.map_toArray, List.map_cons, List.map_nil, Act.eval, Array.getD_eq_getD_getElem?, Option.getD_some, e7]; done) | (simp only [List.map_toArray, List.map_cons, List.map_nil, Act.eval, Array.getD_eq_getD_getElem?, Option.getD_some, e7]; rfl)) ?_
    with_reducible refine (acceptor_pair.calls a0_0 a0_1 t106 t107 _ A3.out).mono ?_
    rintro e w68 ⟨rfl, hb⟩
    refine ⟨_, rfl, ?_⟩
    have n0_ := Aside0.mk (nb an.out hb)
    have n1_ := Aside0.mk (nb ao.out hb)
    have n2_ := Aside0.mk (below_step bw hb)
    have bl := fun (h0_ : b 4 = true) (h1_ : b 6 = false) => (show w68.heap[aa]? = some (.cells #[.int .i64 0, .int .i64 0] 89 (0, 0)) from by first | exact (blk_below (g := aa) (o := .cells #[.int .i64 0, .int .i64 0] 89 (0, 0)) (by (with_reducible repeat (first | refine blk_drewN ?_ _ | refine blk_drew ?_ | refine blk_alloc ?_ _)); exact (av h0_ h1_)) hb))
    have bm := fun (h0_ : b 5 = true) (h1_ : b 7 = false) => (show w68.heap[ab]? = some (.cells #[.int .i64 0, .int .i64 0] 89 (0, 0)) from by first | exact (blk_below (g := ab) (o := .cells #[.int .i64 0, .int .i64 0] 89 (0, 0)) (by (with_reducible repeat (first | refine blk_drewN ?_ _ | refine blk_drew ?_ | refine blk_alloc ?_ _)); exact (au h0_ h1_)) hb))
    clear an
    clear ao
    clear HB
    have an := n0_
    have ao := n1_
    have HB := n2_
    clear n0_ n1_ n2_
    (try clear hb)
    (try clear hb2)
    (try clear hk)
    (try clear hi)
    refine hK.out _ _ ⟨aa, ab, m4_, m5_, (by rw [ha.out]; exact putSel_upk 1 hb_ rfl rfl rfl), (bk an.out), (bk ao.out), bw, ak, al, bl, aw, ax, ac, ad, ae, af, bm, ay, az, ag, ah, ai, aj, fun h0_ => absurd ((hoff 6 (by kernel_rfl)).symm.trans h0_) (by decide), fun h0_ => absurd ((hoff 7 (by kernel_rfl)).symm.trans h0_) (by decide), bb, bc⟩
   refine steps_cons ?_ ?_
   ·rintro b a w' ⟨aa, ab, m4_, m5_, ha, ap, aq, bf, ak, al, av, aw, ax, ac, ad, ae, af, au, ay, az, ag, ah, ai, aj, ar, a0, bb, bc⟩ hb_ hon hoff
    refine ⟨_, rfl, fun K hK => ?_⟩
    have e3 : a.tmps[3]? = some (.pointer (some ⟨be, 0, none⟩)) := by rw [ha]; exact (putSel_off rfl).trans rfl
    replace ha := Aside0.mk ha
    have an := Aside0.mk ap
    have ao := Aside0.mk aq
    have HB := Aside0.mk bf
    have hc0_ : w'.cell? ⟨be, 0, none⟩ = some (.int .i64 a1_0) := (blk_cell ao.out 0).trans rfl
    have hc1_ : w'.cell? ⟨be, 1, none⟩ = some (.int .i64 a1_1) := (blk_cell ao.out 1).trans rfl
    refine value_ (w1 := w') (v := .agg #[.int .i64 a1_0, .int .i64 a1_1]) (by rfl) rfl ?_ ?_
    ·go_simp
     (try simp only [i64_w])
     try rfl
    refine hK.out _ _ ⟨aa, ab, m4_, m5_, (by rw [ha.out]; exact putSel_upk 2 hb_ rfl rfl rfl), ap, aq, bf, ak, al, av, aw, ax, ac, ad, ae, af, au, ay, az, ag, ah, ai, aj, fun h0_ => absurd ((hoff 6 (by kernel_rfl)).symm.trans h0_) (by decide), fun h0_ => absurd ((hoff 7 (by kernel_rfl)).symm.trans h0_) (by decide), bb, bc⟩
   refine steps_cons ?_ ?_
   ·rintro b a w' ⟨aa, ab, m4_, m5_, ha, ap, aq, bf, ak, al, av, aw, ax, ac, ad, ae, af, au, ay, az, ag, ah, ai, aj, ar, a0, bb, bc⟩ hb_ hon hoff
    refine ⟨_, rfl, fun K hK => ?_⟩
    have e9 : a.tmps[9]? = some (.agg #[.int .i64 a1_0, .int .i64 a1_1]) := by rw [ha]; exact putSel_on (e := (2, 9, .agg #[.int .i64 a1_0, .int .i64 a1_1])) 2 rfl rfl (hon 2 (by kernel_rfl)) rfl
    replace ha := Aside0.mk ha
    have an := Aside0.mk ap
    have ao := Aside0.mk aq
    have HB := Aside0.mk bf
    refine goes_ Tryd.func39 (by kernel_rfl) rfl #[.agg #[.int .i64 a1_0, .int .i64 a1_1]] (by rfl) rfl rfl (by first | (simp only [List.map_toArray, List.map_cons, List.map_nil, Act.eval, Array.getD_eq_getD_getElem?, Option.getD_some, e9]; done) | (simp only [List.map_toArray, List.map_cons, List.map_nil, Act.eval, Array.getD_eq_getD_getElem?, Option.getD_some, e9]; rfl)) ?_
    with_reducible refine (acceptor_pair.calls a1_0 a1_1 t108 t109 _ A4.out).mono ?_
    rintro e w70 ⟨rfl, hb⟩
    refine ⟨_, rfl, ?_⟩
    have n0_ := Aside0.mk (nb an.out hb)
    have n1_ := Aside0.mk (nb ao.out hb)
    have n2_ := Aside0.mk (below_step bw hb)
    have bl := fun (h0_ : b 4 = true) (h1_ : b 6 = false) => (show w70.heap[aa]? = some (.cells #[.int .i64 0, .int .i64 0] 89 (0, 0)) from by first | exact (blk_below (g := aa) (o := .cells #[.int .i64 0, .int .i64 0] 89 (0, 0)) (by (with_reducible repeat (first | refine blk_drewN ?_ _ | refine blk_drew ?_ | refine blk_alloc ?_ _)); exact (av h0_ h1_)) hb))
    have bm := fun (h0_ : b 5 = true) (h1_ : b 7 = false) => (show w70.heap[ab]? = some (.cells #[.int .i64 0, .int .i64 0] 89 (0, 0)) from by first | exact (blk_below (g := ab) (o := .cells #[.int .i64 0, .int .i64 0] 89 (0, 0)) (by (with_reducible repeat (first | refine blk_drewN ?_ _ | refine blk_drew ?_ | refine blk_alloc ?_ _)); exact (au h0_ h1_)) hb))
    clear an
    clear ao
    clear HB
    have an := n0_
    have ao := n1_
    have HB := n2_
    clear n0_ n1_ n2_
    (try clear hb)
    (try clear hb2)
    (try clear hk)
    (try clear hi)
    refine hK.out _ _ ⟨aa, ab, m4_, m5_, (by rw [ha.out]; exact putSel_upk 3 hb_ rfl rfl rfl), (bk an.out), (bk ao.out), bw, ak, al, bl, aw, ax, ac, ad, ae, af, bm, ay, az, ag, ah, ai, aj, fun h0_ => absurd ((hoff 6 (by kernel_rfl)).symm.trans h0_) (by decide), fun h0_ => absurd ((hoff 7 (by kernel_rfl)).symm.trans h0_) (by decide), bb, bc⟩
   refine steps_cons ?_ ?_
   ·rintro b a w' ⟨aa, ab, m4_, m5_, ha, ap, aq, bf, ak, al, av, aw, ax, ac, ad, ae, af, au, ay, az, ag, ah, ai, aj, ar, a0, bb, bc⟩ hb_ hon hoff
    refine ⟨_, rfl, fun K hK => ?_⟩
    replace ha := Aside0.mk ha
    have an := Aside0.mk ap
    have ao := Aside0.mk aq
    have HB := Aside0.mk bf
    refine box_step ?hg (N := 5) ?hd (cs := #[.int .i64 0, .int .i64 0]) (t := 89) ?hr ?_; (case hd => rfl); (case hg => rfl); (case hr => first | (go_simp; done) | (go_simp; rfl))
    intro aa hg w68 hbox hb
    have n0_ := Aside0.mk (nb an.out hb)
    have n1_ := Aside0.mk (nb ao.out hb)
    have n2_ := Aside0.mk (below_step bw hb)
    have n3_ := Aside0.mk (hbox)
    have n4_ := Aside0.mk ((g1 hg bw : w.heap.size ≤ aa))
    have n5_ := Aside0.mk ((g1 hg bw : w.heap.size ≤ aa))
    have n6_ := Aside0.mk ((n1 hg an.out : bd ≠ aa))
    have n7_ := Aside0.mk ((n2 hg an.out : aa ≠ bd))
    have n8_ := Aside0.mk ((n1 hg ao.out : be ≠ aa))
    have n9_ := Aside0.mk ((n2 hg ao.out : aa ≠ be))
    have bi := fun (h0_ : up b 4 4 = true) (h1_ : up b 4 5 = true) => (show ab ≠ aa from ((by rw [hg]; exact Nat.ne_of_lt (blk_lt (g := ab) (o := .cells #[.int .i64 0, .int .i64 0] 89 (0, 0)) (by (with_reducible repeat (first | refine blk_drewN ?_ _ | refine blk_drew ?_ | refine blk_alloc ?_ _)); (first | exact bg.out | exact au (by first | exact h0_ | exact h1_ | exact (up_ne (by decide)).symm.trans h0_ | exact (up_ne (by decide)).symm.trans h1_) (hoff _ (by kernel_rfl))))) : ab ≠ aa)))
    have bj := fun (h0_ : up b 4 4 = true) (h1_ : up b 4 5 = true) => (show aa ≠ ab from ((by rw [hg]; exact Nat.ne_of_gt (blk_lt (g := ab) (o := .cells #[.int .i64 0, .int .i64 0] 89 (0, 0)) (by (with_reducible repeat (first | refine blk_drewN ?_ _ | refine blk_drew ?_ | refine blk_alloc ?_ _)); (first | exact bg.out | exact au (by first | exact h0_ | exact h1_ | exact (up_ne (by decide)).symm.trans h0_ | exact (up_ne (by decide)).symm.trans h1_) (hoff _ (by kernel_rfl))))) : aa ≠ ab)))
    have bm := fun (h0_ : b 5 = true) (h1_ : b 7 = false) => (show w68.heap[ab]? = some (.cells #[.int .i64 0, .int .i64 0] 89 (0, 0)) from by first | exact (blk_below (g := ab) (o := .cells #[.int .i64 0, .int .i64 0] 89 (0, 0)) (by (with_reducible repeat (first | refine blk_drewN ?_ _ | refine blk_drew ?_ | refine blk_alloc ?_ _)); exact (au h0_ h1_)) hb))
    clear an
    clear ao
    clear HB
    have an := n0_
    have ao := n1_
    have HB := n2_
    have bh := n3_
    have bn := n4_
    have bo := n5_
    have a1 := n6_
    have a7 := n7_
    have a2 := n8_
    have a8 := n9_
    clear n0_ n1_ n2_ n3_ n4_ n5_ n6_ n7_ n8_ n9_
    clear hb hbox hg
    refine hK.out _ _ ⟨aa, ab, (.pointer (some ⟨aa, 0, none⟩)), m5_, (by rw [ha.out]; exact putSel_upk 4 hb_ rfl rfl rfl), (bk an.out), (bk ao.out), bw, bi, bj, fun _ _ => (bk bh.out), fun _ => bn.out, fun _ => bo.out, fun _ => a1.out, fun _ => a7.out, fun _ => a2.out, fun _ => a8.out, bm, ay, az, ag, ah, ai, aj, fun h0_ => absurd ((hoff 6 (by kernel_rfl)).symm.trans h0_) (by decide), fun h0_ => absurd ((hoff 7 (by kernel_rfl)).symm.trans h0_) (by decide), fun _ => rfl, bc⟩
   refine steps_cons ?_ ?_
   ·rintro b a w' ⟨aa, ab, m4_, m5_, ha, ap, aq, bf, ak, al, av, aw, ax, ac, ad, ae, af, au, ay, az, ag, ah, ai, aj, ar, a0, bb, bc⟩ hb_ hon hoff
    refine ⟨_, rfl, fun K hK => ?_⟩
    replace ha := Aside0.mk ha
    have an := Aside0.mk ap
    have ao := Aside0.mk aq
    have HB := Aside0.mk bf
    refine box_step ?hg (N := 6) ?hd (cs := #[.int .i64 0, .int .i64 0]) (t := 89) ?hr ?_; (case hd => rfl); (case hg => rfl); (case hr => first | (go_simp; done) | (go_simp; rfl))
    intro ab hg w68 hbox hb
    have n0_ := Aside0.mk (nb an.out hb)
    have n1_ := Aside0.mk (nb ao.out hb)
    have n2_ := Aside0.mk (below_step bw hb)
    have n3_ := Aside0.mk (hbox)
    have n4_ := Aside0.mk ((g1 hg bw : w.heap.size ≤ ab))
    have n5_ := Aside0.mk ((g1 hg bw : w.heap.size ≤ ab))
    have n6_ := Aside0.mk ((n1 hg an.out : bd ≠ ab))
    have n7_ := Aside0.mk ((n2 hg an.out : ab ≠ bd))
    have n8_ := Aside0.mk ((n1 hg ao.out : be ≠ ab))
    have n9_ := Aside0.mk ((n2 hg ao.out : ab ≠ be))
    have bi := fun (h0_ : up b 5 4 = true) (h1_ : up b 5 5 = true) => (show ab ≠ aa from ((by rw [hg]; exact Nat.ne_of_gt (blk_lt (g := aa) (o := .cells #[.int .i64 0, .int .i64 0] 89 (0, 0)) (by (with_reducible repeat (first | refine blk_drewN ?_ _ | refine blk_drew ?_ | refine blk_alloc ?_ _)); (first | exact bh.out | exact av (by first | exact h0_ | exact h1_ | exact (up_ne (by decide)).symm.trans h0_ | exact (up_ne (by decide)).symm.trans h1_) (hoff _ (by kernel_rfl))))) : ab ≠ aa)))
    have bj := fun (h0_ : up b 5 4 = true) (h1_ : up b 5 5 = true) => (show aa ≠ ab from ((by rw [hg]; exact Nat.ne_of_lt (blk_lt (g := aa) (o := .cells #[.int .i64 0, .int .i64 0] 89 (0, 0)) (by (with_reducible repeat (first | refine blk_drewN ?_ _ | refine blk_drew ?_ | refine blk_alloc ?_ _)); (first | exact bh.out | exact av (by first | exact h0_ | exact h1_ | exact (up_ne (by decide)).symm.trans h0_ | exact (up_ne (by decide)).symm.trans h1_) (hoff _ (by kernel_rfl))))) : aa ≠ ab)))
    have bl := fun (h0_ : b 4 = true) (h1_ : b 6 = false) => (show w68.heap[aa]? = some (.cells #[.int .i64 0, .int .i64 0] 89 (0, 0)) from by first | exact (blk_below (g := aa) (o := .cells #[.int .i64 0, .int .i64 0] 89 (0, 0)) (by (with_reducible repeat (first | refine blk_drewN ?_ _ | refine blk_drew ?_ | refine blk_alloc ?_ _)); exact (av h0_ h1_)) hb))
    clear an
    clear ao
    clear HB
    have an := n0_
    have ao := n1_
    have HB := n2_
    have bg := n3_
    have bp := n4_
    have bq := n5_
    have a3 := n6_
    have a9 := n7_
    have a4 := n8_
    have ba := n9_
    clear n0_ n1_ n2_ n3_ n4_ n5_ n6_ n7_ n8_ n9_
    clear hb hbox hg
    refine hK.out _ _ ⟨aa, ab, m4_, (.pointer (some ⟨ab, 0, none⟩)), (by rw [ha.out]; exact putSel_upk 5 hb_ rfl rfl rfl), (bk an.out), (bk ao.out), bw, bi, bj, bl, aw, ax, ac, ad, ae, af, fun _ _ => (bk bg.out), fun _ => bp.out, fun _ => bq.out, fun _ => a3.out, fun _ => a9.out, fun _ => a4.out, fun _ => ba.out, fun h0_ => absurd ((hoff 6 (by kernel_rfl)).symm.trans h0_) (by decide), fun h0_ => absurd ((hoff 7 (by kernel_rfl)).symm.trans h0_) (by decide), bb, fun _ => rfl⟩
   refine steps_cons ?_ ?_
   ·rintro b a w' ⟨aa, ab, m4_, m5_, ha, ap, aq, bf, ak, al, av, aw, ax, ac, ad, ae, af, au, ay, az, ag, ah, ai, aj, ar, a0, bb, bc⟩ hb_ hon hoff
    refine ⟨_, rfl, fun K hK => ?_⟩
    have e5 : a.tmps[5]? = some (m4_) := by rw [ha]; exact putSel_on (e := (4, 5, m4_)) 4 rfl rfl (hon 4 (by kernel_rfl)) rfl
    rw [bb (hon 4 (by kernel_rfl))] at e5
    have e8 : a.tmps[8]? = some (.agg #[.int .i64 t106, .int .i64 t107]) := by rw [ha]; exact putSel_on (e := (1, 8, .agg #[.int .i64 t106, .int .i64 t107])) 1 rfl rfl (hon 1 (by kernel_rfl)) rfl
    replace ha := Aside0.mk ha
    have an := Aside0.mk ap
    have ao := Aside0.mk aq
    have HB := Aside0.mk bf
    have a5 := Aside0.mk (ak (hon 4 (by kernel_rfl)) (hon 5 (by kernel_rfl)))
    have a6 := Aside0.mk (al (hon 4 (by kernel_rfl)) (hon 5 (by kernel_rfl)))
    have bh := Aside0.mk (av (hon 4 (by kernel_rfl)) hb_)
    have bn := Aside0.mk (aw (hon 4 (by kernel_rfl)))
    have bo := Aside0.mk (ax (hon 4 (by kernel_rfl)))
    have a1 := Aside0.mk (ac (hon 4 (by kernel_rfl)))
    have a7 := Aside0.mk (ad (hon 4 (by kernel_rfl)))
    have a2 := Aside0.mk (ae (hon 4 (by kernel_rfl)))
    have a8 := Aside0.mk (af (hon 4 (by kernel_rfl)))
    have bg := Aside0.mk (au (hon 5 (by kernel_rfl)) (hoff 7 (by kernel_rfl)))
    have bp := Aside0.mk (ay (hon 5 (by kernel_rfl)))
    have bq := Aside0.mk (az (hon 5 (by kernel_rfl)))
    have a3 := Aside0.mk (ag (hon 5 (by kernel_rfl)))
    have a9 := Aside0.mk (ah (hon 5 (by kernel_rfl)))
    have a4 := Aside0.mk (ai (hon 5 (by kernel_rfl)))
    have ba := Aside0.mk (aj (hon 5 (by kernel_rfl)))
    have hs73 : w'.cell? ⟨aa, 0, none⟩ = some (.int .i64 0) := (blk_cell bh.out 0).trans rfl
    have hfs73 := blk_frozen bh.out 0
    have hns73_0 := a1.out
    have hns73_1 := a2.out
    have hns73_3 := a5.out
    have hms73_0 := a7.out
    have hms73_1 := a8.out
    have hms73_3 := a6.out
    have hs74 : w'.cell? ⟨aa, 1, none⟩ = some (.int .i64 0) := (blk_cell bh.out 1).trans rfl
    have hfs74 := blk_frozen bh.out 1
    have hns74_0 := a1.out
    have hns74_1 := a2.out
    have hns74_3 := a5.out
    have hms74_0 := a7.out
    have hms74_1 := a8.out
    have hms74_3 := a6.out
    refine skip_ (w1 := ?_) (by rfl) rfl ?_ ?_
    rotate_left
    ·go_simp
     rfl
    refine hK.out _ _ ⟨aa, ab, m4_, m5_, (by rw [ha.out]; exact putSel_none (v := undef) rfl), (by (with_reducible repeat (first | refine blk_drewN ?_ _ | refine blk_drew ?_ | refine blk_alloc ?_ _ | refine blk_far ?_ a1.out _)); exact an.out), (by (with_reducible repeat (first | refine blk_drewN ?_ _ | refine blk_drew ?_ | refine blk_alloc ?_ _ | refine blk_far ?_ a2.out _)); exact ao.out), bw, fun _ _ => a5.out, fun _ _ => a6.out, fun _ h1_ => absurd ((up_self b 6).symm.trans h1_) (by decide), fun _ => bn.out, fun _ => bo.out, fun _ => a1.out, fun _ => a7.out, fun _ => a2.out, fun _ => a8.out, fun _ _ => (by (with_reducible repeat (first | refine blk_drewN ?_ _ | refine blk_drew ?_ | refine blk_alloc ?_ _ | refine blk_far ?_ a5.out _)); exact bg.out), fun _ => bp.out, fun _ => bq.out, fun _ => a3.out, fun _ => a9.out, fun _ => a4.out, fun _ => ba.out, fun _ => (by (with_reducible repeat (first | refine blk_drewN ?_ _ | refine blk_drew ?_ | refine blk_alloc ?_ _)); refine blk_put (cs := #[.int .i64 t106, .int .i64 0]) ?_ 1 _ rfl; (with_reducible repeat (first | refine blk_drewN ?_ _ | refine blk_drew ?_ | refine blk_alloc ?_ _)); refine blk_put (cs := #[.int .i64 0, .int .i64 0]) ?_ 0 _ rfl; (with_reducible repeat (first | refine blk_drewN ?_ _ | refine blk_drew ?_ | refine blk_alloc ?_ _)); exact bh.out), fun h0_ => absurd ((hoff 7 (by kernel_rfl)).symm.trans h0_) (by decide), bb, bc⟩
   refine steps_cons ?_ ?_
   ·rintro b a w' ⟨aa, ab, m4_, m5_, ha, ap, aq, bf, ak, al, av, aw, ax, ac, ad, ae, af, au, ay, az, ag, ah, ai, aj, ar, a0, bb, bc⟩ hb_ hon hoff
    refine ⟨_, rfl, fun K hK => ?_⟩
    have e6 : a.tmps[6]? = some (m5_) := by rw [ha]; exact putSel_on (e := (5, 6, m5_)) 5 rfl rfl (hon 5 (by kernel_rfl)) rfl
    rw [bc (hon 5 (by kernel_rfl))] at e6
    have e10 : a.tmps[10]? = some (.agg #[.int .i64 t108, .int .i64 t109]) := by rw [ha]; exact putSel_on (e := (3, 10, .agg #[.int .i64 t108, .int .i64 t109])) 3 rfl rfl (hon 3 (by kernel_rfl)) rfl
    replace ha := Aside0.mk ha
    have an := Aside0.mk ap
    have ao := Aside0.mk aq
    have HB := Aside0.mk bf
    have a5 := Aside0.mk (ak (hon 4 (by kernel_rfl)) (hon 5 (by kernel_rfl)))
    have a6 := Aside0.mk (al (hon 4 (by kernel_rfl)) (hon 5 (by kernel_rfl)))
    have bn := Aside0.mk (aw (hon 4 (by kernel_rfl)))
    have bo := Aside0.mk (ax (hon 4 (by kernel_rfl)))
    have a1 := Aside0.mk (ac (hon 4 (by kernel_rfl)))
    have a7 := Aside0.mk (ad (hon 4 (by kernel_rfl)))
    have a2 := Aside0.mk (ae (hon 4 (by kernel_rfl)))
    have a8 := Aside0.mk (af (hon 4 (by kernel_rfl)))
    have bg := Aside0.mk (au (hon 5 (by kernel_rfl)) hb_)
    have bp := Aside0.mk (ay (hon 5 (by kernel_rfl)))
    have bq := Aside0.mk (az (hon 5 (by kernel_rfl)))
    have a3 := Aside0.mk (ag (hon 5 (by kernel_rfl)))
    have a9 := Aside0.mk (ah (hon 5 (by kernel_rfl)))
    have a4 := Aside0.mk (ai (hon 5 (by kernel_rfl)))
    have ba := Aside0.mk (aj (hon 5 (by kernel_rfl)))
    have bh := Aside0.mk (ar (hon 6 (by kernel_rfl)))
    have hs75 : w'.cell? ⟨ab, 0, none⟩ = some (.int .i64 0) := (blk_cell bg.out 0).trans rfl
    have hfs75 := blk_frozen bg.out 0
    have hns75_0 := a3.out
    have hns75_1 := a4.out
    have hns75_2 := a6.out
    have hms75_0 := a9.out
    have hms75_1 := ba.out
    have hms75_2 := a5.out
    have hs76 : w'.cell? ⟨ab, 1, none⟩ = some (.int .i64 0) := (blk_cell bg.out 1).trans rfl
    have hfs76 := blk_frozen bg.out 1
    have hns76_0 := a3.out
    have hns76_1 := a4.out
    have hns76_2 := a6.out
    have hms76_0 := a9.out
    have hms76_1 := ba.out
    have hms76_2 := a5.out
    refine skip_ (w1 := ?_) (by rfl) rfl ?_ ?_
    rotate_left
    ·go_simp
     rfl
    refine hK.out _ _ ⟨aa, ab, m4_, m5_, (by rw [ha.out]; exact putSel_none (v := undef) rfl), (by (with_reducible repeat (first | refine blk_drewN ?_ _ | refine blk_drew ?_ | refine blk_alloc ?_ _ | refine blk_far ?_ a3.out _)); exact an.out), (by (with_reducible repeat (first | refine blk_drewN ?_ _ | refine blk_drew ?_ | refine blk_alloc ?_ _ | refine blk_far ?_ a4.out _)); exact ao.out), bw, fun _ _ => a5.out, fun _ _ => a6.out, fun _ h1_ => absurd ((hon 6 (by kernel_rfl)).symm.trans h1_) (by decide), fun _ => bn.out, fun _ => bo.out, fun _ => a1.out, fun _ => a7.out, fun _ => a2.out, fun _ => a8.out, fun _ h1_ => absurd ((up_self b 7).symm.trans h1_) (by decide), fun _ => bp.out, fun _ => bq.out, fun _ => a3.out, fun _ => a9.out, fun _ => a4.out, fun _ => ba.out, fun _ => (by (with_reducible repeat (first | refine blk_drewN ?_ _ | refine blk_drew ?_ | refine blk_alloc ?_ _ | refine blk_far ?_ a6.out _)); exact bh.out), fun _ => (by (with_reducible repeat (first | refine blk_drewN ?_ _ | refine blk_drew ?_ | refine blk_alloc ?_ _)); refine blk_put (cs := #[.int .i64 t108, .int .i64 0]) ?_ 1 _ rfl; (with_reducible repeat (first | refine blk_drewN ?_ _ | refine blk_drew ?_ | refine blk_alloc ?_ _)); refine blk_put (cs := #[.int .i64 0, .int .i64 0]) ?_ 0 _ rfl; (with_reducible repeat (first | refine blk_drewN ?_ _ | refine blk_drew ?_ | refine blk_alloc ?_ _)); exact bg.out), bb, bc⟩
   exact steps_nil
  rintro b a w76 hall ⟨aa, ab, m4_, m5_, ha, ap, aq, bf, ak, al, av, aw, ax, ac, ad, ae, af, au, ay, az, ag, ah, ai, aj, ar, a0, bb, bc⟩
  clear an ao HB
  have hb0_ := hall 0 (by kernel_rfl)
  have hb1_ := hall 1 (by kernel_rfl)
  have hb2_ := hall 2 (by kernel_rfl)
  have hb3_ := hall 3 (by kernel_rfl)
  have hb4_ := hall 4 (by kernel_rfl)
  have hb5_ := hall 5 (by kernel_rfl)
  have hb6_ := hall 6 (by kernel_rfl)
  have hb7_ := hall 7 (by kernel_rfl)
  subst ha
  obtain rfl := bb hb4_
  obtain rfl := bc hb5_
  simp only [putSel, hb0_, hb1_, hb2_, hb3_, hb4_, hb5_, hb6_, hb7_, if_true, Act.put, sl1, sl2, sl3]
  have an := Aside0.mk ap
  clear ap
  have ao := Aside0.mk aq
  clear aq
  have HB := Aside0.mk bf
  clear bf
  have a5 := Aside0.mk (ak hb4_ hb5_)
  clear ak
  have a6 := Aside0.mk (al hb4_ hb5_)
  clear al
  clear av
  have bn := Aside0.mk (aw hb4_)
  clear aw
  have bo := Aside0.mk (ax hb4_)
  clear ax
  have a1 := Aside0.mk (ac hb4_)
  clear ac
  have a7 := Aside0.mk (ad hb4_)
  clear ad
  have a2 := Aside0.mk (ae hb4_)
  clear ae
  have a8 := Aside0.mk (af hb4_)
  clear af
  clear au
  have bp := Aside0.mk (ay hb5_)
  clear ay
  have bq := Aside0.mk (az hb5_)
  clear az
  have a3 := Aside0.mk (ag hb5_)
  clear ag
  have a9 := Aside0.mk (ah hb5_)
  clear ah
  have a4 := Aside0.mk (ai hb5_)
  clear ai
  have ba := Aside0.mk (aj hb5_)
  clear aj
  have bh := Aside0.mk (ar hb6_)
  clear ar
  have bg := Aside0.mk (a0 hb7_)
  clear a0
  clear hall hb0_ hb1_ hb2_ hb3_ hb4_ hb5_ hb6_ hb7_
  have hnb77 := a7.out
  have hnc77 := a1.out
  have hnb78 := a8.out
  have hnc78 := a2.out
  have hnb79 := a6.out
  have hnc79 := a5.out
  obtain ⟨hcz80_0, hcz80_1, hfz80_0, hfz80_1⟩ := bx2 bh.out
  have hnb81 := a9.out
  have hnc81 := a3.out
  have hnb82 := ba.out
  have hnc82 := a4.out
  obtain ⟨hcz83_0, hcz83_1, hfz83_0, hfz83_1⟩ := bx2 bg.out
  try go_wp2
  go_ret
  exact ⟨er, bw⟩
 rw [if_pos c5] at H
 have b2 : (!(t106 == t108) || (!(t107 == t109))) = true := c5
 (try (have c5b1 : (t106 == t108 && (t107 == t109)) = false := by have e_ : (t106 == t108 && (t107 == t109)) = (!(!(t106 == t108) || (!(t107 == t109)))) := (by simp only [Bool.not_or, Bool.not_and, Bool.not_not]); rw [e_]; first | (simp only [c5, Bool.not_true]; done) | (simp only [Bool.eq_false_iff.mpr c5, Bool.not_false]; done)))
 clear c5
 by_cases c6 : t106 < t108
 ·rw [if_pos c6] at H
  have c6b0 : decide (t106 < t108) = true := decide_eq_true c6
  clear c6
  obtain rfl := Option.some.inj H
  go_enter Tryd.func29, Tryd.ntmps29
  try go_wp2_with (first | ((with_reducible refine gate_dst (N := 2) rfl ?_); refine box_event ?hg (N := 2) ?hd (cs := #[.int .i64 a0_0, .int .i64 a0_1]) (t := 23) ?hr ?_; (case hd => rfl); (case hg => rfl); (case hr => first | (go_simp; done) | (go_simp; rfl)); intro bd hg w7 hbox hb; have n0_ := Aside0.mk (below_step bw hb); have n1_ := Aside0.mk (hbox); have n2_ := Aside0.mk ((g1 hg bw : w.heap.size ≤ bd)); have n3_ := Aside0.mk ((g1 hg bw : w.heap.size ≤ bd)); clear HB; have HB := n0_; have an := n1_; have bv := n2_; have bx := n3_; clear n0_ n1_ n2_ n3_; clear hb hbox hg) | ((with_reducible refine gate_dst (N := 3) rfl ?_); refine box_event ?hg (N := 3) ?hd (cs := #[.int .i64 a1_0, .int .i64 a1_1]) (t := 23) ?hr ?_; (case hd => rfl); (case hg => rfl); (case hr => first | (go_simp; done) | (go_simp; rfl)); intro be hg w8 hbox hb; have n0_ := Aside0.mk (nb an.out hb); have n1_ := Aside0.mk (below_step bw hb); have n2_ := Aside0.mk (hbox); have n3_ := Aside0.mk ((g1 hg bw : w.heap.size ≤ be)); have n4_ := Aside0.mk ((g1 hg bw : w.heap.size ≤ be)); have n5_ := Aside0.mk ((n1 hg an.out : bd ≠ be)); have n6_ := Aside0.mk ((n2 hg an.out : be ≠ bd)); clear an; clear HB; have an := n0_; have HB := n1_; have ao := n2_; have b0 := n3_; have b1 := n4_; have br := n5_; have bs := n6_; clear n0_ n1_ n2_ n3_ n4_ n5_ n6_; clear hb hbox hg))
  have n0_ := Aside0.mk (blk_drew an.out)
  have n1_ := Aside0.mk (blk_drew ao.out)
  have n2_ := Aside0.mk (below_drew1 HB.out)
  clear an
  clear ao
  clear HB
  have an := n0_
  have ao := n1_
  have HB := n2_
  clear n0_ n1_ n2_
  refine start_ (n := 8) (S := fun w' => True) (ds := []) (bz 8 0) (by kernel_rfl) rfl rfl trivial (fun hHeld => ?_); refine with_tabW acceptor_Less.tab1 acceptor_Less.bits1 (fun HT_ HW_ => ?_)
  generalize w8.drew = w9 at an ao HB hHeld ⊢
  refine inv_at [0, 1, 2, 3, 4, 5, 6, 7] (fun a0_ b a w' => ∃ (aa : Nat) (ab : Nat) (m4_ : Value) (m5_ : Value), a = putSel a0_ b [(0, 7, .agg #[.int .i64 a0_0, .int .i64 a0_1]), (1, 8, .agg #[.int .i64 t106, .int .i64 t107]), (2, 9, .agg #[.int .i64 a1_0, .int .i64 a1_1]), (3, 10, .agg #[.int .i64 t108, .int .i64 t109]), (4, 5, m4_), (5, 6, m5_)] ∧ (w'.heap[bd]? = some (.cells #[.int .i64 a0_0, .int .i64 a0_1] 23 (0, 0))) ∧ (w'.heap[be]? = some (.cells #[.int .i64 a1_0, .int .i64 a1_1] 23 (0, 0))) ∧ (Below w.heap.size w w') ∧ (b 4 = true → b 5 = true → ab ≠ aa) ∧ (b 4 = true → b 5 = true → aa ≠ ab) ∧ (b 4 = true → b 6 = false → w'.heap[aa]? = some (.cells #[.int .i64 0, .int .i64 0] 89 (0, 0))) ∧ (b 4 = true → w.heap.size ≤ aa) ∧ (b 4 = true → w.heap.size ≤ aa) ∧ (b 4 = true → bd ≠ aa) ∧ (b 4 = true → aa ≠ bd) ∧ (b 4 = true → be ≠ aa) ∧ (b 4 = true → aa ≠ be) ∧ (b 5 = true → b 7 = false → w'.heap[ab]? = some (.cells #[.int .i64 0, .int .i64 0] 89 (0, 0))) ∧ (b 5 = true → w.heap.size ≤ ab) ∧ (b 5 = true → w.heap.size ≤ ab) ∧ (b 5 = true → bd ≠ ab) ∧ (b 5 = true → ab ≠ bd) ∧ (b 5 = true → be ≠ ab) ∧ (b 5 = true → ab ≠ be) ∧ (b 6 = true → w'.heap[aa]? = some (.cells #[.int .i64 t106, .int .i64 t107] 89 (0, 0))) ∧ (b 7 = true → w'.heap[ab]? = some (.cells #[.int .i64 t108, .int .i64 t109] 89 (0, 0))) ∧ (b 4 = true → (m4_ : Value) = .pointer (some ⟨aa, 0, none⟩)) ∧ (b 5 = true → (m5_ : Value) = .pointer (some ⟨ab, 0, none⟩))) HT_.out HW_.out (by kernel_rfl) (by kernel_rfl) ?_ ?_ ?_
  ·exact ⟨0, 0, .bool false, .bool false, by simp only [putSel, Bool.false_eq_true, if_false], an.out, ao.out, HB.out, fun h_ => absurd h_ (by decide), fun h_ => absurd h_ (by decide), fun h_ => absurd h_ (by decide), fun h_ => absurd h_ (by decide), fun h_ => absurd h_ (by decide), fun h_ => absurd h_ (by decide), fun h_ => absurd h_ (by decide), fun h_ => absurd h_ (by decide), fun h_ => absurd h_ (by decide), fun h_ => absurd h_ (by decide), fun h_ => absurd h_ (by decide), fun h_ => absurd h_ (by decide), fun h_ => absurd h_ (by decide), fun h_ => absurd h_ (by decide), fun h_ => absurd h_ (by decide), fun h_ => absurd h_ (by decide), fun h_ => absurd h_ (by decide), fun h_ => absurd h_ (by decide), fun h_ => absurd h_ (by decide), fun h_ => absurd h_ (by decide)⟩
  ·skip
   clear an ao HB
   refine steps_cons ?_ ?_
   ·rintro b a w' ⟨aa, ab, m4_, m5_, ha, ap, aq, bf, ak, al, av, aw, ax, ac, ad, ae, af, au, ay, az, ag, ah, ai, aj, ar, a0, bb, bc⟩ hb_ hon hoff
    refine ⟨_, rfl, fun K hK => ?_⟩
    have e2 : a.tmps[2]? = some (.pointer (some ⟨bd, 0, none⟩)) := by rw [ha]; exact (putSel_off rfl).trans rfl
    replace ha := Aside0.mk ha
    have an := Aside0.mk ap
    have ao := Aside0.mk aq
    have HB := Aside0.mk bf
    have hc0_ : w'.cell? ⟨bd, 0, none⟩ = some (.int .i64 a0_0) := (blk_cell an.out 0).trans rfl
    have hc1_ : w'.cell? ⟨bd, 1, none⟩ = some (.int .i64 a0_1) := (blk_cell an.out 1).trans rfl
    refine value_ (w1 := w') (v := .agg #[.int .i64 a0_0, .int .i64 a0_1]) (by rfl) rfl ?_ ?_
    ·go_simp
     (try simp only [i64_w])
     try rfl
    refine hK.out _ _ ⟨aa, ab, m4_, m5_, (by rw [ha.out]; exact putSel_upk 0 hb_ rfl rfl rfl), ap, aq, bf, ak, al, av, aw, ax, ac, ad, ae, af, au, ay, az, ag, ah, ai, aj, fun h0_ => absurd ((hoff 6 (by kernel_rfl)).symm.trans h0_) (by decide), fun h0_ => absurd ((hoff 7 (by kernel_rfl)).symm.trans h0_) (by decide), bb, bc⟩
   refine steps_cons ?_ ?_
   ·rintro b a w' ⟨aa, ab, m4_, m5_, ha, ap, aq, bf, ak, al, av, aw, ax, ac, ad, ae, af, au, ay, az, ag, ah, ai, aj, ar, a0, bb, bc⟩ hb_ hon hoff
    refine ⟨_, rfl, fun K hK => ?_⟩
    have e7 : a.tmps[7]? = some (.agg #[.int .i64 a0_0, .int .i64 a0_1]) := by rw [ha]; exact putSel_on (e := (0, 7, .agg #[.int .i64 a0_0, .int .i64 a0_1])) 0 rfl rfl (hon 0 (by kernel_rfl)) rfl
    replace ha := Aside0.mk ha
    have an := Aside0.mk ap
    have ao := Aside0.mk aq
    have HB := Aside0.mk bf
    refine goes_ Tryd.func39 (by kernel_rfl) rfl #[.agg #[.int .i64 a0_0, .int .i64 a0_1]] (by rfl) rfl rfl (by first | (simp only [List.map_toArray, List.map_cons, List.map_nil, Act.eval, Array.getD_eq_getD_getElem?, Option.getD_some, e7]; done) | (simp only [List.map_toArray, List.map_cons, List.map_nil, Act.eval, Array.getD_eq_getD_getElem?, Option.getD_some, e7]; rfl)) ?_
    with_reducible refine (acceptor_pair.calls a0_0 a0_1 t106 t107 _ A3.out).mono ?_
    rintro e w10 ⟨rfl, hb⟩
    refine ⟨_, rfl, ?_⟩
    have n0_ := Aside0.mk (nb an.out hb)
    have n1_ := Aside0.mk (nb ao.out hb)
    have n2_ := Aside0.mk (below_step bw hb)
    have bl := fun (h0_ : b 4 = true) (h1_ : b 6 = false) => (show w10.heap[aa]? = some (.cells #[.int .i64 0, .int .i64 0] 89 (0, 0)) from by first | exact (blk_below (g := aa) (o := .cells #[.int .i64 0, .int .i64 0] 89 (0, 0)) (by (with_reducible repeat (first | refine blk_drewN ?_ _ | refine blk_drew ?_ | refine blk_alloc ?_ _)); exact (av h0_ h1_)) hb))
    have bm := fun (h0_ : b 5 = true) (h1_ : b 7 = false) => (show w10.heap[ab]? = some (.cells #[.int .i64 0, .int .i64 0] 89 (0, 0)) from by first | exact (blk_below (g := ab) (o := .cells #[.int .i64 0, .int .i64 0] 89 (0, 0)) (by (with_reducible repeat (first | refine blk_drewN ?_ _ | refine blk_drew ?_ | refine blk_alloc ?_ _)); exact (au h0_ h1_)) hb))
    clear an
    clear ao
    clear HB
    have an := n0_
    have ao := n1_
    have HB := n2_
    clear n0_ n1_ n2_
    (try clear hb)
    (try clear hb2)
    (try clear hk)
    (try clear hi)
    refine hK.out _ _ ⟨aa, ab, m4_, m5_, (by rw [ha.out]; exact putSel_upk 1 hb_ rfl rfl rfl), (bk an.out), (bk ao.out), bw, ak, al, bl, aw, ax, ac, ad, ae, af, bm, ay, az, ag, ah, ai, aj, fun h0_ => absurd ((hoff 6 (by kernel_rfl)).symm.trans h0_) (by decide), fun h0_ => absurd ((hoff 7 (by kernel_rfl)).symm.trans h0_) (by decide), bb, bc⟩
   refine steps_cons ?_ ?_
   ·rintro b a w' ⟨aa, ab, m4_, m5_, ha, ap, aq, bf, ak, al, av, aw, ax, ac, ad, ae, af, au, ay, az, ag, ah, ai, aj, ar, a0, bb, bc⟩ hb_ hon hoff
    refine ⟨_, rfl, fun K hK => ?_⟩
    have e3 : a.tmps[3]? = some (.pointer (some ⟨be, 0, none⟩)) := by rw [ha]; exact (putSel_off rfl).trans rfl
    replace ha := Aside0.mk ha
    have an := Aside0.mk ap
    have ao := Aside0.mk aq
    have HB := Aside0.mk bf
    have hc0_ : w'.cell? ⟨be, 0, none⟩ = some (.int .i64 a1_0) := (blk_cell ao.out 0).trans rfl
    have hc1_ : w'.cell? ⟨be, 1, none⟩ = some (.int .i64 a1_1) := (blk_cell ao.out 1).trans rfl
    refine value_ (w1 := w') (v := .agg #[.int .i64 a1_0, .int .i64 a1_1]) (by rfl) rfl ?_ ?_
    ·go_simp
     (try simp only [i64_w])
     try rfl
    refine hK.out _ _ ⟨aa, ab, m4_, m5_, (by rw [ha.out]; exact putSel_upk 2 hb_ rfl rfl rfl), ap, aq, bf, ak, al, av, aw, ax, ac, ad, ae, af, au, ay, az, ag, ah, ai, aj, fun h0_ => absurd ((hoff 6 (by kernel_rfl)).symm.trans h0_) (by decide), fun h0_ => absurd ((hoff 7 (by kernel_rfl)).symm.trans h0_) (by decide), bb, bc⟩
   refine steps_cons ?_ ?_
   ·rintro b a w' ⟨aa, ab, m4_, m5_, ha, ap, aq, bf, ak, al, av, aw, ax, ac, ad, ae, af, au, ay, az, ag, ah, ai, aj, ar, a0, bb, bc⟩ hb_ hon hoff
    refine ⟨_, rfl, fun K hK => ?_⟩
    have e9 : a.tmps[9]? = some (.agg #[.int .i64 a1_0, .int .i64 a1_1]) := by rw [ha]; exact putSel_on (e := (2, 9, .agg #[.int .i64 a1_0, .int .i64 a1_1])) 2 rfl rfl (hon 2 (by kernel_rfl)) rfl
    replace ha := Aside0.mk ha
    have an := Aside0.mk ap
    have ao := Aside0.mk aq
    have HB := Aside0.mk bf
    refine goes_ Tryd.func39 (by kernel_rfl) rfl #[.agg #[.int .i64 a1_0, .int .i64 a1_1]] (by rfl) rfl rfl (by first | (simp only [List.map_toArray, List.map_cons, List.map_nil, Act.eval, Array.getD_eq_getD_getElem?, Option.getD_some, e9]; done) | (simp only [List.map_toArray, List.map_cons, List.map_nil, Act.eval, Array.getD_eq_getD_getElem?, Option.getD_some, e9]; rfl)) ?_
    with_reducible refine (acceptor_pair.calls a1_0 a1_1 t108 t109 _ A4.out).mono ?_
    rintro e w12 ⟨rfl, hb⟩
    refine ⟨_, rfl, ?_⟩
    have n0_ := Aside0.mk (nb an.out hb)
    have n1_ := Aside0.mk (nb ao.out hb)
    have n2_ := Aside0.mk (below_step bw hb)
    have bl := fun (h0_ : b 4 = true) (h1_ : b 6 = false) => (show w12.heap[aa]? = some (.cells #[.int .i64 0, .int .i64 0] 89 (0, 0)) from by first | exact (blk_below (g := aa) (o := .cells #[.int .i64 0, .int .i64 0] 89 (0, 0)) (by (with_reducible repeat (first | refine blk_drewN ?_ _ | refine blk_drew ?_ | refine blk_alloc ?_ _)); exact (av h0_ h1_)) hb))
    have bm := fun (h0_ : b 5 = true) (h1_ : b 7 = false) => (show w12.heap[ab]? = some (.cells #[.int .i64 0, .int .i64 0] 89 (0, 0)) from by first | exact (blk_below (g := ab) (o := .cells #[.int .i64 0, .int .i64 0] 89 (0, 0)) (by (with_reducible repeat (first | refine blk_drewN ?_ _ | refine blk_drew ?_ | refine blk_alloc ?_ _)); exact (au h0_ h1_)) hb))
    clear an
    clear ao
    clear HB
    have an := n0_
    have ao := n1_
    have HB := n2_
    clear n0_ n1_ n2_
    (try clear hb)
    (try clear hb2)
    (try clear hk)
    (try clear hi)
    refine hK.out _ _ ⟨aa, ab, m4_, m5_, (by rw [ha.out]; exact putSel_upk 3 hb_ rfl rfl rfl), (bk an.out), (bk ao.out), bw, ak, al, bl, aw, ax, ac, ad, ae, af, bm, ay, az, ag, ah, ai, aj, fun h0_ => absurd ((hoff 6 (by kernel_rfl)).symm.trans h0_) (by decide), fun h0_ => absurd ((hoff 7 (by kernel_rfl)).symm.trans h0_) (by decide), bb, bc⟩
   refine steps_cons ?_ ?_
   ·rintro b a w' ⟨aa, ab, m4_, m5_, ha, ap, aq, bf, ak, al, av, aw, ax, ac, ad, ae, af, au, ay, az, ag, ah, ai, aj, ar, a0, bb, bc⟩ hb_ hon hoff
    refine ⟨_, rfl, fun K hK => ?_⟩
    replace ha := Aside0.mk ha
    have an := Aside0.mk ap
    have ao := Aside0.mk aq
    have HB := Aside0.mk bf
    refine box_step ?hg (N := 5) ?hd (cs := #[.int .i64 0, .int .i64 0]) (t := 89) ?hr ?_; (case hd => rfl); (case hg => rfl); (case hr => first | (go_simp; done) | (go_simp; rfl))
    intro aa hg w10 hbox hb
    have n0_ := Aside0.mk (nb an.out hb)
    have n1_ := Aside0.mk (nb ao.out hb)
    have n2_ := Aside0.mk (below_step bw hb)
    have n3_ := Aside0.mk (hbox)
    have n4_ := Aside0.mk ((g1 hg bw : w.heap.size ≤ aa))
    have n5_ := Aside0.mk ((g1 hg bw : w.heap.size ≤ aa))
    have n6_ := Aside0.mk ((n1 hg an.out : bd ≠ aa))
    have n7_ := Aside0.mk ((n2 hg an.out : aa ≠ bd))
    have n8_ := Aside0.mk ((n1 hg ao.out : be ≠ aa))
    have n9_ := Aside0.mk ((n2 hg ao.out : aa ≠ be))
    have bi := fun (h0_ : up b 4 4 = true) (h1_ : up b 4 5 = true) => (show ab ≠ aa from ((by rw [hg]; exact Nat.ne_of_lt (blk_lt (g := ab) (o := .cells #[.int .i64 0, .int .i64 0] 89 (0, 0)) (by (with_reducible repeat (first | refine blk_drewN ?_ _ | refine blk_drew ?_ | refine blk_alloc ?_ _)); (first | exact bg.out | exact au (by first | exact h0_ | exact h1_ | exact (up_ne (by decide)).symm.trans h0_ | exact (up_ne (by decide)).symm.trans h1_) (hoff _ (by kernel_rfl))))) : ab ≠ aa)))
    have bj := fun (h0_ : up b 4 4 = true) (h1_ : up b 4 5 = true) => (show aa ≠ ab from ((by rw [hg]; exact Nat.ne_of_gt (blk_lt (g := ab) (o := .cells #[.int .i64 0, .int .i64 0] 89 (0, 0)) (by (with_reducible repeat (first | refine blk_drewN ?_ _ | refine blk_drew ?_ | refine blk_alloc ?_ _)); (first | exact bg.out | exact au (by first | exact h0_ | exact h1_ | exact (up_ne (by decide)).symm.trans h0_ | exact (up_ne (by decide)).symm.trans h1_) (hoff _ (by kernel_rfl))))) : aa ≠ ab)))
    have bm := fun (h0_ : b 5 = true) (h1_ : b 7 = false) => (show w10.heap[ab]? = some (.cells #[.int .i64 0, .int .i64 0] 89 (0, 0)) from by first | exact (blk_below (g := ab) (o := .cells #[.int .i64 0, .int .i64 0] 89 (0, 0)) (by (with_reducible repeat (first | refine blk_drewN ?_ _ | refine blk_drew ?_ | refine blk_alloc ?_ _)); exact (au h0_ h1_)) hb))
    clear an
    clear ao
    clear HB
    have an := n0_
    have ao := n1_
    have HB := n2_
    have bh := n3_
    have bn := n4_
    have bo := n5_
    have a1 := n6_
    have a7 := n7_
    have a2 := n8_
    have a8 := n9_
    clear n0_ n1_ n2_ n3_ n4_ n5_ n6_ n7_ n8_ n9_
    clear hb hbox hg
    refine hK.out _ _ ⟨aa, ab, (.pointer (some ⟨aa, 0, none⟩)), m5_, (by rw [ha.out]; exact putSel_upk 4 hb_ rfl rfl rfl), (bk an.out), (bk ao.out), bw, bi, bj, fun _ _ => (bk bh.out), fun _ => bn.out, fun _ => bo.out, fun _ => a1.out, fun _ => a7.out, fun _ => a2.out, fun _ => a8.out, bm, ay, az, ag, ah, ai, aj, fun h0_ => absurd ((hoff 6 (by kernel_rfl)).symm.trans h0_) (by decide), fun h0_ => absurd ((hoff 7 (by kernel_rfl)).symm.trans h0_) (by decide), fun _ => rfl, bc⟩
   refine steps_cons ?_ ?_
   ·rintro b a w' ⟨aa, ab, m4_, m5_, ha, ap, aq, bf, ak, al, av, aw, ax, ac, ad, ae, af, au, ay, az, ag, ah, ai, aj, ar, a0, bb, bc⟩ hb_ hon hoff
    refine ⟨_, rfl, fun K hK => ?_⟩
    replace ha := Aside0.mk ha
    have an := Aside0.mk ap
    have ao := Aside0.mk aq
    have HB := Aside0.mk bf
    refine box_step ?hg (N := 6) ?hd (cs := #[.int .i64 0, .int .i64 0]) (t := 89) ?hr ?_; (case hd => rfl); (case hg => rfl); (case hr => first | (go_simp; done) | (go_simp; rfl))
    intro ab hg w10 hbox hb
    have n0_ := Aside0.mk (nb an.out hb)
    have n1_ := Aside0.mk (nb ao.out hb)
    have n2_ := Aside0.mk (below_step bw hb)
    have n3_ := Aside0.mk (hbox)
    have n4_ := Aside0.mk ((g1 hg bw : w.heap.size ≤ ab))
    have n5_ := Aside0.mk ((g1 hg bw : w.heap.size ≤ ab))
    have n6_ := Aside0.mk ((n1 hg an.out : bd ≠ ab))
    have n7_ := Aside0.mk ((n2 hg an.out : ab ≠ bd))
    have n8_ := Aside0.mk ((n1 hg ao.out : be ≠ ab))
    have n9_ := Aside0.mk ((n2 hg ao.out : ab ≠ be))
    have bi := fun (h0_ : up b 5 4 = true) (h1_ : up b 5 5 = true) => (show ab ≠ aa from ((by rw [hg]; exact Nat.ne_of_gt (blk_lt (g := aa) (o := .cells #[.int .i64 0, .int .i64 0] 89 (0, 0)) (by (with_reducible repeat (first | refine blk_drewN ?_ _ | refine blk_drew ?_ | refine blk_alloc ?_ _)); (first | exact bh.out | exact av (by first | exact h0_ | exact h1_ | exact (up_ne (by decide)).symm.trans h0_ | exact (up_ne (by decide)).symm.trans h1_) (hoff _ (by kernel_rfl))))) : ab ≠ aa)))
    have bj := fun (h0_ : up b 5 4 = true) (h1_ : up b 5 5 = true) => (show aa ≠ ab from ((by rw [hg]; exact Nat.ne_of_lt (blk_lt (g := aa) (o := .cells #[.int .i64 0, .int .i64 0] 89 (0, 0)) (by (with_reducible repeat (first | refine blk_drewN ?_ _ | refine blk_drew ?_ | refine blk_alloc ?_ _)); (first | exact bh.out | exact av (by first | exact h0_ | exact h1_ | exact (up_ne (by decide)).symm.trans h0_ | exact (up_ne (by decide)).symm.trans h1_) (hoff _ (by kernel_rfl))))) : aa ≠ ab)))
    have bl := fun (h0_ : b 4 = true) (h1_ : b 6 = false) => (show w10.heap[aa]? = some (.cells #[.int .i64 0, .int .i64 0] 89 (0, 0)) from by first | exact (blk_below (g := aa) (o := .cells #[.int .i64 0, .int .i64 0] 89 (0, 0)) (by (with_reducible repeat (first | refine blk_drewN ?_ _ | refine blk_drew ?_ | refine blk_alloc ?_ _)); exact (av h0_ h1_)) hb))
    clear an
    clear ao
    clear HB
    have an := n0_
    have ao := n1_
    have HB := n2_
    have bg := n3_
    have bp := n4_
    have bq := n5_
    have a3 := n6_
    have a9 := n7_
    have a4 := n8_
    have ba := n9_
    clear n0_ n1_ n2_ n3_ n4_ n5_ n6_ n7_ n8_ n9_
    clear hb hbox hg
    refine hK.out _ _ ⟨aa, ab, m4_, (.pointer (some ⟨ab, 0, none⟩)), (by rw [ha.out]; exact putSel_upk 5 hb_ rfl rfl rfl), (bk an.out), (bk ao.out), bw, bi, bj, bl, aw, ax, ac, ad, ae, af, fun _ _ => (bk bg.out), fun _ => bp.out, fun _ => bq.out, fun _ => a3.out, fun _ => a9.out, fun _ => a4.out, fun _ => ba.out, fun h0_ => absurd ((hoff 6 (by kernel_rfl)).symm.trans h0_) (by decide), fun h0_ => absurd ((hoff 7 (by kernel_rfl)).symm.trans h0_) (by decide), bb, fun _ => rfl⟩
   refine steps_cons ?_ ?_
   ·rintro b a w' ⟨aa, ab, m4_, m5_, ha, ap, aq, bf, ak, al, av, aw, ax, ac, ad, ae, af, au, ay, az, ag, ah, ai, aj, ar, a0, bb, bc⟩ hb_ hon hoff
    refine ⟨_, rfl, fun K hK => ?_⟩
    have e5 : a.tmps[5]? = some (m4_) := by rw [ha]; exact putSel_on (e := (4, 5, m4_)) 4 rfl rfl (hon 4 (by kernel_rfl)) rfl
    rw [bb (hon 4 (by kernel_rfl))] at e5
    have e8 : a.tmps[8]? = some (.agg #[.int .i64 t106, .int .i64 t107]) := by rw [ha]; exact putSel_on (e := (1, 8, .agg #[.int .i64 t106, .int .i64 t107])) 1 rfl rfl (hon 1 (by kernel_rfl)) rfl
    replace ha := Aside0.mk ha
    have an := Aside0.mk ap
    have ao := Aside0.mk aq
    have HB := Aside0.mk bf
    have a5 := Aside0.mk (ak (hon 4 (by kernel_rfl)) (hon 5 (by kernel_rfl)))
    have a6 := Aside0.mk (al (hon 4 (by kernel_rfl)) (hon 5 (by kernel_rfl)))
    have bh := Aside0.mk (av (hon 4 (by kernel_rfl)) hb_)
    have bn := Aside0.mk (aw (hon 4 (by kernel_rfl)))
    have bo := Aside0.mk (ax (hon 4 (by kernel_rfl)))
    have a1 := Aside0.mk (ac (hon 4 (by kernel_rfl)))
    have a7 := Aside0.mk (ad (hon 4 (by kernel_rfl)))
    have a2 := Aside0.mk (ae (hon 4 (by kernel_rfl)))
    have a8 := Aside0.mk (af (hon 4 (by kernel_rfl)))
    have bg := Aside0.mk (au (hon 5 (by kernel_rfl)) (hoff 7 (by kernel_rfl)))
    have bp := Aside0.mk (ay (hon 5 (by kernel_rfl)))
    have bq := Aside0.mk (az (hon 5 (by kernel_rfl)))
    have a3 := Aside0.mk (ag (hon 5 (by kernel_rfl)))
    have a9 := Aside0.mk (ah (hon 5 (by kernel_rfl)))
    have a4 := Aside0.mk (ai (hon 5 (by kernel_rfl)))
    have ba := Aside0.mk (aj (hon 5 (by kernel_rfl)))
    have hs15 : w'.cell? ⟨aa, 0, none⟩ = some (.int .i64 0) := (blk_cell bh.out 0).trans rfl
    have hfs15 := blk_frozen bh.out 0
    have hns15_0 := a1.out
    have hns15_1 := a2.out
    have hns15_3 := a5.out
    have hms15_0 := a7.out
    have hms15_1 := a8.out
    have hms15_3 := a6.out
    have hs16 : w'.cell? ⟨aa, 1, none⟩ = some (.int .i64 0) := (blk_cell bh.out 1).trans rfl
    have hfs16 := blk_frozen bh.out 1
    have hns16_0 := a1.out
    have hns16_1 := a2.out
    have hns16_3 := a5.out
    have hms16_0 := a7.out
    have hms16_1 := a8.out
    have hms16_3 := a6.out
    refine skip_ (w1 := ?_) (by rfl) rfl ?_ ?_
    rotate_left
    ·go_simp
     rfl
    refine hK.out _ _ ⟨aa, ab, m4_, m5_, (by rw [ha.out]; exact putSel_none (v := undef) rfl), (by (with_reducible repeat (first | refine blk_drewN ?_ _ | refine blk_drew ?_ | refine blk_alloc ?_ _ | refine blk_far ?_ a1.out _)); exact an.out), (by (with_reducible repeat (first | refine blk_drewN ?_ _ | refine blk_drew ?_ | refine blk_alloc ?_ _ | refine blk_far ?_ a2.out _)); exact ao.out), bw, fun _ _ => a5.out, fun _ _ => a6.out, fun _ h1_ => absurd ((up_self b 6).symm.trans h1_) (by decide), fun _ => bn.out, fun _ => bo.out, fun _ => a1.out, fun _ => a7.out, fun _ => a2.out, fun _ => a8.out, fun _ _ => (by (with_reducible repeat (first | refine blk_drewN ?_ _ | refine blk_drew ?_ | refine blk_alloc ?_ _ | refine blk_far ?_ a5.out _)); exact bg.out), fun _ => bp.out, fun _ => bq.out, fun _ => a3.out, fun _ => a9.out, fun _ => a4.out, fun _ => ba.out, fun _ => (by (with_reducible repeat (first | refine blk_drewN ?_ _ | refine blk_drew ?_ | refine blk_alloc ?_ _)); refine blk_put (cs := #[.int .i64 t106, .int .i64 0]) ?_ 1 _ rfl; (with_reducible repeat (first | refine blk_drewN ?_ _ | refine blk_drew ?_ | refine blk_alloc ?_ _)); refine blk_put (cs := #[.int .i64 0, .int .i64 0]) ?_ 0 _ rfl; (with_reducible repeat (first | refine blk_drewN ?_ _ | refine blk_drew ?_ | refine blk_alloc ?_ _)); exact bh.out), fun h0_ => absurd ((hoff 7 (by kernel_rfl)).symm.trans h0_) (by decide), bb, bc⟩
   refine steps_cons ?_ ?_
   ·rintro b a w' ⟨aa, ab, m4_, m5_, ha, ap, aq, bf, ak, al, av, aw, ax, ac, ad, ae, af, au, ay, az, ag, ah, ai, aj, ar, a0, bb, bc⟩ hb_ hon hoff
    refine ⟨_, rfl, fun K hK => ?_⟩
    have e6 : a.tmps[6]? = some (m5_) := by rw [ha]; exact putSel_on (e := (5, 6, m5_)) 5 rfl rfl (hon 5 (by kernel_rfl)) rfl
    rw [bc (hon 5 (by kernel_rfl))] at e6
    have e10 : a.tmps[10]? = some (.agg #[.int .i64 t108, .int .i64 t109]) := by rw [ha]; exact putSel_on (e := (3, 10, .agg #[.int .i64 t108, .int .i64 t109])) 3 rfl rfl (hon 3 (by kernel_rfl)) rfl
    replace ha := Aside0.mk ha
    have an := Aside0.mk ap
    have ao := Aside0.mk aq
    have HB := Aside0.mk bf
    have a5 := Aside0.mk (ak (hon 4 (by kernel_rfl)) (hon 5 (by kernel_rfl)))
    have a6 := Aside0.mk (al (hon 4 (by kernel_rfl)) (hon 5 (by kernel_rfl)))
    have bn := Aside0.mk (aw (hon 4 (by kernel_rfl)))
    have bo := Aside0.mk (ax (hon 4 (by kernel_rfl)))
    have a1 := Aside0.mk (ac (hon 4 (by kernel_rfl)))
    have a7 := Aside0.mk (ad (hon 4 (by kernel_rfl)))
    have a2 := Aside0.mk (ae (hon 4 (by kernel_rfl)))
    have a8 := Aside0.mk (af (hon 4 (by kernel_rfl)))
    have bg := Aside0.mk (au (hon 5 (by kernel_rfl)) hb_)
    have bp := Aside0.mk (ay (hon 5 (by kernel_rfl)))
    have bq := Aside0.mk (az (hon 5 (by kernel_rfl)))
    have a3 := Aside0.mk (ag (hon 5 (by kernel_rfl)))
    have a9 := Aside0.mk (ah (hon 5 (by kernel_rfl)))
    have a4 := Aside0.mk (ai (hon 5 (by kernel_rfl)))
    have ba := Aside0.mk (aj (hon 5 (by kernel_rfl)))
    have bh := Aside0.mk (ar (hon 6 (by kernel_rfl)))
    have hs17 : w'.cell? ⟨ab, 0, none⟩ = some (.int .i64 0) := (blk_cell bg.out 0).trans rfl
    have hfs17 := blk_frozen bg.out 0
    have hns17_0 := a3.out
    have hns17_1 := a4.out
    have hns17_2 := a6.out
    have hms17_0 := a9.out
    have hms17_1 := ba.out
    have hms17_2 := a5.out
    have hs18 : w'.cell? ⟨ab, 1, none⟩ = some (.int .i64 0) := (blk_cell bg.out 1).trans rfl
    have hfs18 := blk_frozen bg.out 1
    have hns18_0 := a3.out
    have hns18_1 := a4.out
    have hns18_2 := a6.out
    have hms18_0 := a9.out
    have hms18_1 := ba.out
    have hms18_2 := a5.out
    refine skip_ (w1 := ?_) (by rfl) rfl ?_ ?_
    rotate_left
    ·go_simp
     rfl
    refine hK.out _ _ ⟨aa, ab, m4_, m5_, (by rw [ha.out]; exact putSel_none (v := undef) rfl), (by (with_reducible repeat (first | refine blk_drewN ?_ _ | refine blk_drew ?_ | refine blk_alloc ?_ _ | refine blk_far ?_ a3.out _)); exact an.out), (by (with_reducible repeat (first | refine blk_drewN ?_ _ | refine blk_drew ?_ | refine blk_alloc ?_ _ | refine blk_far ?_ a4.out _)); exact ao.out), bw, fun _ _ => a5.out, fun _ _ => a6.out, fun _ h1_ => absurd ((hon 6 (by kernel_rfl)).symm.trans h1_) (by decide), fun _ => bn.out, fun _ => bo.out, fun _ => a1.out, fun _ => a7.out, fun _ => a2.out, fun _ => a8.out, fun _ h1_ => absurd ((up_self b 7).symm.trans h1_) (by decide), fun _ => bp.out, fun _ => bq.out, fun _ => a3.out, fun _ => a9.out, fun _ => a4.out, fun _ => ba.out, fun _ => (by (with_reducible repeat (first | refine blk_drewN ?_ _ | refine blk_drew ?_ | refine blk_alloc ?_ _ | refine blk_far ?_ a6.out _)); exact bh.out), fun _ => (by (with_reducible repeat (first | refine blk_drewN ?_ _ | refine blk_drew ?_ | refine blk_alloc ?_ _)); refine blk_put (cs := #[.int .i64 t108, .int .i64 0]) ?_ 1 _ rfl; (with_reducible repeat (first | refine blk_drewN ?_ _ | refine blk_drew ?_ | refine blk_alloc ?_ _)); refine blk_put (cs := #[.int .i64 0, .int .i64 0]) ?_ 0 _ rfl; (with_reducible repeat (first | refine blk_drewN ?_ _ | refine blk_drew ?_ | refine blk_alloc ?_ _)); exact bg.out), bb, bc⟩
   exact steps_nil
  rintro b a w18 hall ⟨aa, ab, m4_, m5_, ha, ap, aq, bf, ak, al, av, aw, ax, ac, ad, ae, af, au, ay, az, ag, ah, ai, aj, ar, a0, bb, bc⟩
  clear an ao HB
  have hb0_ := hall 0 (by kernel_rfl)
  have hb1_ := hall 1 (by kernel_rfl)
  have hb2_ := hall 2 (by kernel_rfl)
  have hb3_ := hall 3 (by kernel_rfl)
  have hb4_ := hall 4 (by kernel_rfl)
  have hb5_ := hall 5 (by kernel_rfl)
  have hb6_ := hall 6 (by kernel_rfl)
  have hb7_ := hall 7 (by kernel_rfl)
  subst ha
  obtain rfl := bb hb4_
  obtain rfl := bc hb5_
  simp only [putSel, hb0_, hb1_, hb2_, hb3_, hb4_, hb5_, hb6_, hb7_, if_true, Act.put, sl1, sl2, sl3]
  have an := Aside0.mk ap
  clear ap
  have ao := Aside0.mk aq
  clear aq
  have HB := Aside0.mk bf
  clear bf
  have a5 := Aside0.mk (ak hb4_ hb5_)
  clear ak
  have a6 := Aside0.mk (al hb4_ hb5_)
  clear al
  clear av
  have bn := Aside0.mk (aw hb4_)
  clear aw
  have bo := Aside0.mk (ax hb4_)
  clear ax
  have a1 := Aside0.mk (ac hb4_)
  clear ac
  have a7 := Aside0.mk (ad hb4_)
  clear ad
  have a2 := Aside0.mk (ae hb4_)
  clear ae
  have a8 := Aside0.mk (af hb4_)
  clear af
  clear au
  have bp := Aside0.mk (ay hb5_)
  clear ay
  have bq := Aside0.mk (az hb5_)
  clear az
  have a3 := Aside0.mk (ag hb5_)
  clear ag
  have a9 := Aside0.mk (ah hb5_)
  clear ah
  have a4 := Aside0.mk (ai hb5_)
  clear ai
  have ba := Aside0.mk (aj hb5_)
  clear aj
  have bh := Aside0.mk (ar hb6_)
  clear ar
  have bg := Aside0.mk (a0 hb7_)
  clear a0
  clear hall hb0_ hb1_ hb2_ hb3_ hb4_ hb5_ hb6_ hb7_
  have hnb19 := a7.out
  have hnc19 := a1.out
  have hnb20 := a8.out
  have hnc20 := a2.out
  have hnb21 := a6.out
  have hnc21 := a5.out
  obtain ⟨hcz22_0, hcz22_1, hfz22_0, hfz22_1⟩ := bx2 bh.out
  have hnb23 := a9.out
  have hnc23 := a3.out
  have hnb24 := ba.out
  have hnc24 := a4.out
  obtain ⟨hcz25_0, hcz25_1, hfz25_0, hfz25_1⟩ := bx2 bg.out
  try go_wp2
  go_ret
  exact ⟨er, bw⟩
 rw [if_neg c6] at H
 have c6b0 : decide (t106 < t108) = false := decide_eq_false c6
 clear c6
 have HhZ := Aside0.mk H
 clear H
 go_enter Tryd.func29, Tryd.ntmps29
 try go_wp2_with (first | ((with_reducible refine gate_dst (N := 2) rfl ?_); refine box_event ?hg (N := 2) ?hd (cs := #[.int .i64 a0_0, .int .i64 a0_1]) (t := 23) ?hr ?_; (case hd => rfl); (case hg => rfl); (case hr => first | (go_simp; done) | (go_simp; rfl)); intro bd hg w27 hbox hb; have n0_ := Aside0.mk (below_step bw hb); have n1_ := Aside0.mk (hbox); have n2_ := Aside0.mk ((g1 hg bw : w.heap.size ≤ bd)); have n3_ := Aside0.mk ((g1 hg bw : w.heap.size ≤ bd)); clear HB; have HB := n0_; have an := n1_; have bv := n2_; have bx := n3_; clear n0_ n1_ n2_ n3_; clear hb hbox hg) | ((with_reducible refine gate_dst (N := 3) rfl ?_); refine box_event ?hg (N := 3) ?hd (cs := #[.int .i64 a1_0, .int .i64 a1_1]) (t := 23) ?hr ?_; (case hd => rfl); (case hg => rfl); (case hr => first | (go_simp; done) | (go_simp; rfl)); intro be hg w28 hbox hb; have n0_ := Aside0.mk (nb an.out hb); have n1_ := Aside0.mk (below_step bw hb); have n2_ := Aside0.mk (hbox); have n3_ := Aside0.mk ((g1 hg bw : w.heap.size ≤ be)); have n4_ := Aside0.mk ((g1 hg bw : w.heap.size ≤ be)); have n5_ := Aside0.mk ((n1 hg an.out : bd ≠ be)); have n6_ := Aside0.mk ((n2 hg an.out : be ≠ bd)); clear an; clear HB; have an := n0_; have HB := n1_; have ao := n2_; have b0 := n3_; have b1 := n4_; have br := n5_; have bs := n6_; clear n0_ n1_ n2_ n3_ n4_ n5_ n6_; clear hb hbox hg))
 have n0_ := Aside0.mk (blk_drew an.out)
 have n1_ := Aside0.mk (blk_drew ao.out)
 have n2_ := Aside0.mk (below_drew1 HB.out)
 clear an
 clear ao
 clear HB
 have an := n0_
 have ao := n1_
 have HB := n2_
 clear n0_ n1_ n2_
 refine start_ (n := 8) (S := fun w' => True) (ds := []) (bz 8 0) (by kernel_rfl) rfl rfl trivial (fun hHeld => ?_); refine with_tabW acceptor_Less.tab1 acceptor_Less.bits1 (fun HT_ HW_ => ?_)
 generalize w28.drew = w29 at an ao HB hHeld ⊢
 refine inv_at [0, 1, 2, 3, 4, 5, 6, 7] (fun a0_ b a w' => ∃ (aa : Nat) (ab : Nat) (m4_ : Value) (m5_ : Value), a = putSel a0_ b [(0, 7, .agg #[.int .i64 a0_0, .int .i64 a0_1]), (1, 8, .agg #[.int .i64 t106, .int .i64 t107]), (2, 9, .agg #[.int .i64 a1_0, .int .i64 a1_1]), (3, 10, .agg #[.int .i64 t108, .int .i64 t109]), (4, 5, m4_), (5, 6, m5_)] ∧ (w'.heap[bd]? = some (.cells #[.int .i64 a0_0, .int .i64 a0_1] 23 (0, 0))) ∧ (w'.heap[be]? = some (.cells #[.int .i64 a1_0, .int .i64 a1_1] 23 (0, 0))) ∧ (Below w.heap.size w w') ∧ (b 4 = true → b 5 = true → ab ≠ aa) ∧ (b 4 = true → b 5 = true → aa ≠ ab) ∧ (b 4 = true → b 6 = false → w'.heap[aa]? = some (.cells #[.int .i64 0, .int .i64 0] 89 (0, 0))) ∧ (b 4 = true → w.heap.size ≤ aa) ∧ (b 4 = true → w.heap.size ≤ aa) ∧ (b 4 = true → bd ≠ aa) ∧ (b 4 = true → aa ≠ bd) ∧ (b 4 = true → be ≠ aa) ∧ (b 4 = true → aa ≠ be) ∧ (b 5 = true → b 7 = false → w'.heap[ab]? = some (.cells #[.int .i64 0, .int .i64 0] 89 (0, 0))) ∧ (b 5 = true → w.heap.size ≤ ab) ∧ (b 5 = true → w.heap.size ≤ ab) ∧ (b 5 = true → bd ≠ ab) ∧ (b 5 = true → ab ≠ bd) ∧ (b 5 = true → be ≠ ab) ∧ (b 5 = true → ab ≠ be) ∧ (b 6 = true → w'.heap[aa]? = some (.cells #[.int .i64 t106, .int .i64 t107] 89 (0, 0))) ∧ (b 7 = true → w'.heap[ab]? = some (.cells #[.int .i64 t108, .int .i64 t109] 89 (0, 0))) ∧ (b 4 = true → (m4_ : Value) = .pointer (some ⟨aa, 0, none⟩)) ∧ (b 5 = true → (m5_ : Value) = .pointer (some ⟨ab, 0, none⟩))) HT_.out HW_.out (by kernel_rfl) (by kernel_rfl) ?_ ?_ ?_
 ·exact ⟨0, 0, .bool false, .bool false, by simp only [putSel, Bool.false_eq_true, if_false], an.out, ao.out, HB.out, fun h_ => absurd h_ (by decide), fun h_ => absurd h_ (by decide), fun h_ => absurd h_ (by decide), fun h_ => absurd h_ (by decide), fun h_ => absurd h_ (by decide), fun h_ => absurd h_ (by decide), fun h_ => absurd h_ (by decide), fun h_ => absurd h_ (by decide), fun h_ => absurd h_ (by decide), fun h_ => absurd h_ (by decide), fun h_ => absurd h_ (by decide), fun h_ => absurd h_ (by decide), fun h_ => absurd h_ (by decide), fun h_ => absurd h_ (by decide), fun h_ => absurd h_ (by decide), fun h_ => absurd h_ (by decide), fun h_ => absurd h_ (by decide), fun h_ => absurd h_ (by decide), fun h_ => absurd h_ (by decide), fun h_ => absurd h_ (by decide)⟩
 ·skip
  clear an ao HB
  refine steps_cons ?_ ?_
  ·rintro b a w' ⟨aa, ab, m4_, m5_, ha, ap, aq, bf, ak, al, av, aw, ax, ac, ad, ae, af, au, ay, az, ag, ah, ai, aj, ar, a0, bb, bc⟩ hb_ hon hoff
   refine ⟨_, rfl, fun K hK => ?_⟩
   have e2 : a.tmps[2]? = some (.pointer (some ⟨bd, 0, none⟩)) := by rw [ha]; exact (putSel_off rfl).trans rfl
   replace ha := Aside0.mk ha
   have an := Aside0.mk ap
   have ao := Aside0.mk aq
   have HB := Aside0.mk bf
   have hc0_ : w'.cell? ⟨bd, 0, none⟩ = some (.int .i64 a0_0) := (blk_cell an.out 0).trans rfl
   have hc1_ : w'.cell? ⟨bd, 1, none⟩ = some (.int .i64 a0_1) := (blk_cell an.out 1).trans rfl
   refine value_ (w1 := w') (v := .agg #[.int .i64 a0_0, .int .i64 a0_1]) (by rfl) rfl ?_ ?_
   ·go_simp
    (try simp only [i64_w])
    try rfl
   refine hK.out _ _ ⟨aa, ab, m4_, m5_, (by rw [ha.out]; exact putSel_upk 0 hb_ rfl rfl rfl), ap, aq, bf, ak, al, av, aw, ax, ac, ad, ae, af, au, ay, az, ag, ah, ai, aj, fun h0_ => absurd ((hoff 6 (by kernel_rfl)).symm.trans h0_) (by decide), fun h0_ => absurd ((hoff 7 (by kernel_rfl)).symm.trans h0_) (by decide), bb, bc⟩
  refine steps_cons ?_ ?_
  ·rintro b a w' ⟨aa, ab, m4_, m5_, ha, ap, aq, bf, ak, al, av, aw, ax, ac, ad, ae, af, au, ay, az, ag, ah, ai, aj, ar, a0, bb, bc⟩ hb_ hon hoff
   refine ⟨_, rfl, fun K hK => ?_⟩
   have e7 : a.tmps[7]? = some (.agg #[.int .i64 a0_0, .int .i64 a0_1]) := by rw [ha]; exact putSel_on (e := (0, 7, .agg #[.int .i64 a0_0, .int .i64 a0_1])) 0 rfl rfl (hon 0 (by kernel_rfl)) rfl
   replace ha := Aside0.mk ha
   have an := Aside0.mk ap
   have ao := Aside0.mk aq
   have HB := Aside0.mk bf
   refine goes_ Tryd.func39 (by kernel_rfl) rfl #[.agg #[.int .i64 a0_0, .int .i64 a0_1]] (by rfl) rfl rfl (by first | (simp only [List.map_toArray, List.map_cons, List.map_nil, Act.eval, Array.getD_eq_getD_getElem?, Option.getD_some, e7]; done) | (simp only [List.map_toArray, List.map_cons, List.map_nil, Act.eval, Array.getD_eq_getD_getElem?, Option.getD_some, e7]; rfl)) ?_
   with_reducible refine (acceptor_pair.calls a0_0 a0_1 t106 t107 _ A3.out).mono ?_
   rintro e w30 ⟨rfl, hb⟩
   refine ⟨_, rfl, ?_⟩
   have n0_ := Aside0.mk (nb an.out hb)
   have n1_ := Aside0.mk (nb ao.out hb)
   have n2_ := Aside0.mk (below_step bw hb)
   have bl := fun (h0_ : b 4 = true) (h1_ : b 6 = false) => (show w30.heap[aa]? = some (.cells #[.int .i64 0, .int .i64 0] 89 (0, 0)) from by first | exact (blk_below (g := aa) (o := .cells #[.int .i64 0, .int .i64 0] 89 (0, 0)) (by (with_reducible repeat (first | refine blk_drewN ?_ _ | refine blk_drew ?_ | refine blk_alloc ?_ _)); exact (av h0_ h1_)) hb))
   have bm := fun (h0_ : b 5 = true) (h1_ : b 7 = false) => (show w30.heap[ab]? = some (.cells #[.int .i64 0, .int .i64 0] 89 (0, 0)) from by first | exact (blk_below (g := ab) (o := .cells #[.int .i64 0, .int .i64 0] 89 (0, 0)) (by (with_reducible repeat (first | refine blk_drewN ?_ _ | refine blk_drew ?_ | refine blk_alloc ?_ _)); exact (au h0_ h1_)) hb))
   clear an
   clear ao
   clear HB
   have an := n0_
   have ao := n1_
   have HB := n2_
   clear n0_ n1_ n2_
   (try clear hb)
   (try clear hb2)
   (try clear hk)
   (try clear hi)
   refine hK.out _ _ ⟨aa, ab, m4_, m5_, (by rw [ha.out]; exact putSel_upk 1 hb_ rfl rfl rfl), (bk an.out), (bk ao.out), bw, ak, al, bl, aw, ax, ac, ad, ae, af, bm, ay, az, ag, ah, ai, aj, fun h0_ => absurd ((hoff 6 (by kernel_rfl)).symm.trans h0_) (by decide), fun h0_ => absurd ((hoff 7 (by kernel_rfl)).symm.trans h0_) (by decide), bb, bc⟩
  refine steps_cons ?_ ?_
  ·rintro b a w' ⟨aa, ab, m4_, m5_, ha, ap, aq, bf, ak, al, av, aw, ax, ac, ad, ae, af, au, ay, az, ag, ah, ai, aj, ar, a0, bb, bc⟩ hb_ hon hoff
   refine ⟨_, rfl, fun K hK => ?_⟩
   have e3 : a.tmps[3]? = some (.pointer (some ⟨be, 0, none⟩)) := by rw [ha]; exact (putSel_off rfl).trans rfl
   replace ha := Aside0.mk ha
   have an := Aside0.mk ap
   have ao := Aside0.mk aq
   have HB := Aside0.mk bf
   have hc0_ : w'.cell? ⟨be, 0, none⟩ = some (.int .i64 a1_0) := (blk_cell ao.out 0).trans rfl
   have hc1_ : w'.cell? ⟨be, 1, none⟩ = some (.int .i64 a1_1) := (blk_cell ao.out 1).trans rfl
   refine value_ (w1 := w') (v := .agg #[.int .i64 a1_0, .int .i64 a1_1]) (by rfl) rfl ?_ ?_
   ·go_simp
    (try simp only [i64_w])
    try rfl
   refine hK.out _ _ ⟨aa, ab, m4_, m5_, (by rw [ha.out]; exact putSel_upk 2 hb_ rfl rfl rfl), ap, aq, bf, ak, al, av, aw, ax, ac, ad, ae, af, au, ay, az, ag, ah, ai, aj, fun h0_ => absurd ((hoff 6 (by kernel_rfl)).symm.trans h0_) (by decide), fun h0_ => absurd ((hoff 7 (by kernel_rfl)).symm.trans h0_) (by decide), bb, bc⟩
  refine steps_cons ?_ ?_
  ·rintro b a w' ⟨aa, ab, m4_, m5_, ha, ap, aq, bf, ak, al, av, aw, ax, ac, ad, ae, af, au, ay, az, ag, ah, ai, aj, ar, a0, bb, bc⟩ hb_ hon hoff
   refine ⟨_, rfl, fun K hK => ?_⟩
   have e9 : a.tmps[9]? = some (.agg #[.int .i64 a1_0, .int .i64 a1_1]) := by rw [ha]; exact putSel_on (e := (2, 9, .agg #[.int .i64 a1_0, .int .i64 a1_1])) 2 rfl rfl (hon 2 (by kernel_rfl)) rfl
   replace ha := Aside0.mk ha
   have an := Aside0.mk ap
   have ao := Aside0.mk aq
   have HB := Aside0.mk bf
   refine goes_ Tryd.func39 (by kernel_rfl) rfl #[.agg #[.int .i64 a1_0, .int .i64 a1_1]] (by rfl) rfl rfl (by first | (simp only [List.map_toArray, List.map_cons, List.map_nil, Act.eval, Array.getD_eq_getD_getElem?, Option.getD_some, e9]; done) | (simp only [List.map_toArray, List.map_cons, List.map_nil, Act.eval, Array.getD_eq_getD_getElem?, Option.getD_some, e9]; rfl)) ?_
   with_reducible refine (acceptor_pair.calls a1_0 a1_1 t108 t109 _ A4.out).mono ?_
   rintro e w32 ⟨rfl, hb⟩
   refine ⟨_, rfl, ?_⟩
   have n0_ := Aside0.mk (nb an.out hb)
   have n1_ := Aside0.mk (nb ao.out hb)
   have n2_ := Aside0.mk (below_step bw hb)
   have bl := fun (h0_ : b 4 = true) (h1_ : b 6 = false) => (show w32.heap[aa]? = some (.cells #[.int .i64 0, .int .i64 0] 89 (0, 0)) from by first | exact (blk_below (g := aa) (o := .cells #[.int .i64 0, .int .i64 0] 89 (0, 0)) (by (with_reducible repeat (first | refine blk_drewN ?_ _ | refine blk_drew ?_ | refine blk_alloc ?_ _)); exact (av h0_ h1_)) hb))
   have bm := fun (h0_ : b 5 = true) (h1_ : b 7 = false) => (show w32.heap[ab]? = some (.cells #[.int .i64 0, .int .i64 0] 89 (0, 0)) from by first | exact (blk_below (g := ab) (o := .cells #[.int .i64 0, .int .i64 0] 89 (0, 0)) (by (with_reducible repeat (first | refine blk_drewN ?_ _ | refine blk_drew ?_ | refine blk_alloc ?_ _)); exact (au h0_ h1_)) hb))
   clear an
   clear ao
   clear HB
   have an := n0_
   have ao := n1_
   have HB := n2_
   clear n0_ n1_ n2_
   (try clear hb)
   (try clear hb2)
   (try clear hk)
   (try clear hi)
   refine hK.out _ _ ⟨aa, ab, m4_, m5_, (by rw [ha.out]; exact putSel_upk 3 hb_ rfl rfl rfl), (bk an.out), (bk ao.out), bw, ak, al, bl, aw, ax, ac, ad, ae, af, bm, ay, az, ag, ah, ai, aj, fun h0_ => absurd ((hoff 6 (by kernel_rfl)).symm.trans h0_) (by decide), fun h0_ => absurd ((hoff 7 (by kernel_rfl)).symm.trans h0_) (by decide), bb, bc⟩
  refine steps_cons ?_ ?_
  ·rintro b a w' ⟨aa, ab, m4_, m5_, ha, ap, aq, bf, ak, al, av, aw, ax, ac, ad, ae, af, au, ay, az, ag, ah, ai, aj, ar, a0, bb, bc⟩ hb_ hon hoff
   refine ⟨_, rfl, fun K hK => ?_⟩
   replace ha := Aside0.mk ha
   have an := Aside0.mk ap
   have ao := Aside0.mk aq
   have HB := Aside0.mk bf
   refine box_step ?hg (N := 5) ?hd (cs := #[.int .i64 0, .int .i64 0]) (t := 89) ?hr ?_; (case hd => rfl); (case hg => rfl); (case hr => first | (go_simp; done) | (go_simp; rfl))
   intro aa hg w30 hbox hb
   have n0_ := Aside0.mk (nb an.out hb)
   have n1_ := Aside0.mk (nb ao.out hb)
   have n2_ := Aside0.mk (below_step bw hb)
   have n3_ := Aside0.mk (hbox)
   have n4_ := Aside0.mk ((g1 hg bw : w.heap.size ≤ aa))
   have n5_ := Aside0.mk ((g1 hg bw : w.heap.size ≤ aa))
   have n6_ := Aside0.mk ((n1 hg an.out : bd ≠ aa))
   have n7_ := Aside0.mk ((n2 hg an.out : aa ≠ bd))
   have n8_ := Aside0.mk ((n1 hg ao.out : be ≠ aa))
   have n9_ := Aside0.mk ((n2 hg ao.out : aa ≠ be))
   have bi := fun (h0_ : up b 4 4 = true) (h1_ : up b 4 5 = true) => (show ab ≠ aa from ((by rw [hg]; exact Nat.ne_of_lt (blk_lt (g := ab) (o := .cells #[.int .i64 0, .int .i64 0] 89 (0, 0)) (by (with_reducible repeat (first | refine blk_drewN ?_ _ | refine blk_drew ?_ | refine blk_alloc ?_ _)); (first | exact bg.out | exact au (by first | exact h0_ | exact h1_ | exact (up_ne (by decide)).symm.trans h0_ | exact (up_ne (by decide)).symm.trans h1_) (hoff _ (by kernel_rfl))))) : ab ≠ aa)))
   have bj := fun (h0_ : up b 4 4 = true) (h1_ : up b 4 5 = true) => (show aa ≠ ab from ((by rw [hg]; exact Nat.ne_of_gt (blk_lt (g := ab) (o := .cells #[.int .i64 0, .int .i64 0] 89 (0, 0)) (by (with_reducible repeat (first | refine blk_drewN ?_ _ | refine blk_drew ?_ | refine blk_alloc ?_ _)); (first | exact bg.out | exact au (by first | exact h0_ | exact h1_ | exact (up_ne (by decide)).symm.trans h0_ | exact (up_ne (by decide)).symm.trans h1_) (hoff _ (by kernel_rfl))))) : aa ≠ ab)))
   have bm := fun (h0_ : b 5 = true) (h1_ : b 7 = false) => (show w30.heap[ab]? = some (.cells #[.int .i64 0, .int .i64 0] 89 (0, 0)) from by first | exact (blk_below (g := ab) (o := .cells #[.int .i64 0, .int .i64 0] 89 (0, 0)) (by (with_reducible repeat (first | refine blk_drewN ?_ _ | refine blk_drew ?_ | refine blk_alloc ?_ _)); exact (au h0_ h1_)) hb))
   clear an
   clear ao
   clear HB
   have an := n0_
   have ao := n1_
   have HB := n2_
   have bh := n3_
   have bn := n4_
   have bo := n5_
   have a1 := n6_
   have a7 := n7_
   have a2 := n8_
   have a8 := n9_
   clear n0_ n1_ n2_ n3_ n4_ n5_ n6_ n7_ n8_ n9_
   clear hb hbox hg
   refine hK.out _ _ ⟨aa, ab, (.pointer (some ⟨aa, 0, none⟩)), m5_, (by rw [ha.out]; exact putSel_upk 4 hb_ rfl rfl rfl), (bk an.out), (bk ao.out), bw, bi, bj, fun _ _ => (bk bh.out), fun _ => bn.out, fun _ => bo.out, fun _ => a1.out, fun _ => a7.out, fun _ => a2.out, fun _ => a8.out, bm, ay, az, ag, ah, ai, aj, fun h0_ => absurd ((hoff 6 (by kernel_rfl)).symm.trans h0_) (by decide), fun h0_ => absurd ((hoff 7 (by kernel_rfl)).symm.trans h0_) (by decide), fun _ => rfl, bc⟩
  refine steps_cons ?_ ?_
  ·rintro b a w' ⟨aa, ab, m4_, m5_, ha, ap, aq, bf, ak, al, av, aw, ax, ac, ad, ae, af, au, ay, az, ag, ah, ai, aj, ar, a0, bb, bc⟩ hb_ hon hoff
   refine ⟨_, rfl, fun K hK => ?_⟩
   replace ha := Aside0.mk ha
   have an := Aside0.mk ap
   have ao := Aside0.mk aq
   have HB := Aside0.mk bf
   refine box_step ?hg (N := 6) ?hd (cs := #[.int .i64 0, .int .i64 0]) (t := 89) ?hr ?_; (case hd => rfl); (case hg => rfl); (case hr => first | (go_simp; done) | (go_simp; rfl))
   intro ab hg w30 hbox hb
   have n0_ := Aside0.mk (nb an.out hb)
   have n1_ := Aside0.mk (nb ao.out hb)
   have n2_ := Aside0.mk (below_step bw hb)
   have n3_ := Aside0.mk (hbox)
   have n4_ := Aside0.mk ((g1 hg bw : w.heap.size ≤ ab))
   have n5_ := Aside0.mk ((g1 hg bw : w.heap.size ≤ ab))
   have n6_ := Aside0.mk ((n1 hg an.out : bd ≠ ab))
   have n7_ := Aside0.mk ((n2 hg an.out : ab ≠ bd))
   have n8_ := Aside0.mk ((n1 hg ao.out : be ≠ ab))
   have n9_ := Aside0.mk ((n2 hg ao.out : ab ≠ be))
   have bi := fun (h0_ : up b 5 4 = true) (h1_ : up b 5 5 = true) => (show ab ≠ aa from ((by rw [hg]; exact Nat.ne_of_gt (blk_lt (g := aa) (o := .cells #[.int .i64 0, .int .i64 0] 89 (0, 0)) (by (with_reducible repeat (first | refine blk_drewN ?_ _ | refine blk_drew ?_ | refine blk_alloc ?_ _)); (first | exact bh.out | exact av (by first | exact h0_ | exact h1_ | exact (up_ne (by decide)).symm.trans h0_ | exact (up_ne (by decide)).symm.trans h1_) (hoff _ (by kernel_rfl))))) : ab ≠ aa)))
   have bj := fun (h0_ : up b 5 4 = true) (h1_ : up b 5 5 = true) => (show aa ≠ ab from ((by rw [hg]; exact Nat.ne_of_lt (blk_lt (g := aa) (o := .cells #[.int .i64 0, .int .i64 0] 89 (0, 0)) (by (with_reducible repeat (first | refine blk_drewN ?_ _ | refine blk_drew ?_ | refine blk_alloc ?_ _)); (first | exact bh.out | exact av (by first | exact h0_ | exact h1_ | exact (up_ne (by decide)).symm.trans h0_ | exact (up_ne (by decide)).symm.trans h1_) (hoff _ (by kernel_rfl))))) : aa ≠ ab)))
   have bl := fun (h0_ : b 4 = true) (h1_ : b 6 = false) => (show w30.heap[aa]? = some (.cells #[.int .i64 0, .int .i64 0] 89 (0, 0)) from by first | exact (blk_below (g := aa) (o := .cells #[.int .i64 0, .int .i64 0] 89 (0, 0)) (by (with_reducible repeat (first | refine blk_drewN ?_ _ | refine blk_drew ?_ | refine blk_alloc ?_ _)); exact (av h0_ h1_)) hb))
   clear an
   clear ao
   clear HB
   have an := n0_
   have ao := n1_
   have HB := n2_
   have bg := n3_
   have bp := n4_
   have bq := n5_
   have a3 := n6_
   have a9 := n7_
   have a4 := n8_
   have ba := n9_
   clear n0_ n1_ n2_ n3_ n4_ n5_ n6_ n7_ n8_ n9_
   clear hb hbox hg
   refine hK.out _ _ ⟨aa, ab, m4_, (.pointer (some ⟨ab, 0, none⟩)), (by rw [ha.out]; exact putSel_upk 5 hb_ rfl rfl rfl), (bk an.out), (bk ao.out), bw, bi, bj, bl, aw, ax, ac, ad, ae, af, fun _ _ => (bk bg.out), fun _ => bp.out, fun _ => bq.out, fun _ => a3.out, fun _ => a9.out, fun _ => a4.out, fun _ => ba.out, fun h0_ => absurd ((hoff 6 (by kernel_rfl)).symm.trans h0_) (by decide), fun h0_ => absurd ((hoff 7 (by kernel_rfl)).symm.trans h0_) (by decide), bb, fun _ => rfl⟩
  refine steps_cons ?_ ?_
  ·rintro b a w' ⟨aa, ab, m4_, m5_, ha, ap, aq, bf, ak, al, av, aw, ax, ac, ad, ae, af, au, ay, az, ag, ah, ai, aj, ar, a0, bb, bc⟩ hb_ hon hoff
   refine ⟨_, rfl, fun K hK => ?_⟩
   have e5 : a.tmps[5]? = some (m4_) := by rw [ha]; exact putSel_on (e := (4, 5, m4_)) 4 rfl rfl (hon 4 (by kernel_rfl)) rfl
   rw [bb (hon 4 (by kernel_rfl))] at e5
   have e8 : a.tmps[8]? = some (.agg #[.int .i64 t106, .int .i64 t107]) := by rw [ha]; exact putSel_on (e := (1, 8, .agg #[.int .i64 t106, .int .i64 t107])) 1 rfl rfl (hon 1 (by kernel_rfl)) rfl
   replace ha := Aside0.mk ha
   have an := Aside0.mk ap
   have ao := Aside0.mk aq
   have HB := Aside0.mk bf
   have a5 := Aside0.mk (ak (hon 4 (by kernel_rfl)) (hon 5 (by kernel_rfl)))
   have a6 := Aside0.mk (al (hon 4 (by kernel_rfl)) (hon 5 (by kernel_rfl)))
   have bh := Aside0.mk (av (hon 4 (by kernel_rfl)) hb_)
   have bn := Aside0.mk (aw (hon 4 (by kernel_rfl)))
   have bo := Aside0.mk (ax (hon 4 (by kernel_rfl)))
   have a1 := Aside0.mk (ac (hon 4 (by kernel_rfl)))
   have a7 := Aside0.mk (ad (hon 4 (by kernel_rfl)))
   have a2 := Aside0.mk (ae (hon 4 (by kernel_rfl)))
   have a8 := Aside0.mk (af (hon 4 (by kernel_rfl)))
   have bg := Aside0.mk (au (hon 5 (by kernel_rfl)) (hoff 7 (by kernel_rfl)))
   have bp := Aside0.mk (ay (hon 5 (by kernel_rfl)))
   have bq := Aside0.mk (az (hon 5 (by kernel_rfl)))
   have a3 := Aside0.mk (ag (hon 5 (by kernel_rfl)))
   have a9 := Aside0.mk (ah (hon 5 (by kernel_rfl)))
   have a4 := Aside0.mk (ai (hon 5 (by kernel_rfl)))
   have ba := Aside0.mk (aj (hon 5 (by kernel_rfl)))
   have hs35 : w'.cell? ⟨aa, 0, none⟩ = some (.int .i64 0) := (blk_cell bh.out 0).trans rfl
   have hfs35 := blk_frozen bh.out 0
   have hns35_0 := a1.out
   have hns35_1 := a2.out
   have hns35_3 := a5.out
   have hms35_0 := a7.out
   have hms35_1 := a8.out
   have hms35_3 := a6.out
   have hs36 : w'.cell? ⟨aa, 1, none⟩ = some (.int .i64 0) := (blk_cell bh.out 1).trans rfl
   have hfs36 := blk_frozen bh.out 1
   have hns36_0 := a1.out
   have hns36_1 := a2.out
   have hns36_3 := a5.out
   have hms36_0 := a7.out
   have hms36_1 := a8.out
   have hms36_3 := a6.out
   refine skip_ (w1 := ?_) (by rfl) rfl ?_ ?_
   rotate_left
   ·go_simp
    rfl
   refine hK.out _ _ ⟨aa, ab, m4_, m5_, (by rw [ha.out]; exact putSel_none (v := undef) rfl), (by (with_reducible repeat (first | refine blk_drewN ?_ _ | refine blk_drew ?_ | refine blk_alloc ?_ _ | refine blk_far ?_ a1.out _)); exact an.out), (by (with_reducible repeat (first | refine blk_drewN ?_ _ | refine blk_drew ?_ | refine blk_alloc ?_ _ | refine blk_far ?_ a2.out _)); exact ao.out), bw, fun _ _ => a5.out, fun _ _ => a6.out, fun _ h1_ => absurd ((up_self b 6).symm.trans h1_) (by decide), fun _ => bn.out, fun _ => bo.out, fun _ => a1.out, fun _ => a7.out, fun _ => a2.out, fun _ => a8.out, fun _ _ => (by (with_reducible repeat (first | refine blk_drewN ?_ _ | refine blk_drew ?_ | refine blk_alloc ?_ _ | refine blk_far ?_ a5.out _)); exact bg.out), fun _ => bp.out, fun _ => bq.out, fun _ => a3.out, fun _ => a9.out, fun _ => a4.out, fun _ => ba.out, fun _ => (by (with_reducible repeat (first | refine blk_drewN ?_ _ | refine blk_drew ?_ | refine blk_alloc ?_ _)); refine blk_put (cs := #[.int .i64 t106, .int .i64 0]) ?_ 1 _ rfl; (with_reducible repeat (first | refine blk_drewN ?_ _ | refine blk_drew ?_ | refine blk_alloc ?_ _)); refine blk_put (cs := #[.int .i64 0, .int .i64 0]) ?_ 0 _ rfl; (with_reducible repeat (first | refine blk_drewN ?_ _ | refine blk_drew ?_ | refine blk_alloc ?_ _)); exact bh.out), fun h0_ => absurd ((hoff 7 (by kernel_rfl)).symm.trans h0_) (by decide), bb, bc⟩
  refine steps_cons ?_ ?_
  ·rintro b a w' ⟨aa, ab, m4_, m5_, ha, ap, aq, bf, ak, al, av, aw, ax, ac, ad, ae, af, au, ay, az, ag, ah, ai, aj, ar, a0, bb, bc⟩ hb_ hon hoff
   refine ⟨_, rfl, fun K hK => ?_⟩
   have e6 : a.tmps[6]? = some (m5_) := by rw [ha]; exact putSel_on (e := (5, 6, m5_)) 5 rfl rfl (hon 5 (by kernel_rfl)) rfl
   rw [bc (hon 5 (by kernel_rfl))] at e6
   have e10 : a.tmps[10]? = some (.agg #[.int .i64 t108, .int .i64 t109]) := by rw [ha]; exact putSel_on (e := (3, 10, .agg #[.int .i64 t108, .int .i64 t109])) 3 rfl rfl (hon 3 (by kernel_rfl)) rfl
   replace ha := Aside0.mk ha
   have an := Aside0.mk ap
   have ao := Aside0.mk aq
   have HB := Aside0.mk bf
   have a5 := Aside0.mk (ak (hon 4 (by kernel_rfl)) (hon 5 (by kernel_rfl)))
   have a6 := Aside0.mk (al (hon 4 (by kernel_rfl)) (hon 5 (by kernel_rfl)))
   have bn := Aside0.mk (aw (hon 4 (by kernel_rfl)))
   have bo := Aside0.mk (ax (hon 4 (by kernel_rfl)))
   have a1 := Aside0.mk (ac (hon 4 (by kernel_rfl)))
   have a7 := Aside0.mk (ad (hon 4 (by kernel_rfl)))
   have a2 := Aside0.mk (ae (hon 4 (by kernel_rfl)))
   have a8 := Aside0.mk (af (hon 4 (by kernel_rfl)))
   have bg := Aside0.mk (au (hon 5 (by kernel_rfl)) hb_)
   have bp := Aside0.mk (ay (hon 5 (by kernel_rfl)))
   have bq := Aside0.mk (az (hon 5 (by kernel_rfl)))
   have a3 := Aside0.mk (ag (hon 5 (by kernel_rfl)))
   have a9 := Aside0.mk (ah (hon 5 (by kernel_rfl)))
   have a4 := Aside0.mk (ai (hon 5 (by kernel_rfl)))
   have ba := Aside0.mk (aj (hon 5 (by kernel_rfl)))
   have bh := Aside0.mk (ar (hon 6 (by kernel_rfl)))
   have hs37 : w'.cell? ⟨ab, 0, none⟩ = some (.int .i64 0) := (blk_cell bg.out 0).trans rfl
   have hfs37 := blk_frozen bg.out 0
   have hns37_0 := a3.out
   have hns37_1 := a4.out
   have hns37_2 := a6.out
   have hms37_0 := a9.out
   have hms37_1 := ba.out
   have hms37_2 := a5.out
   have hs38 : w'.cell? ⟨ab, 1, none⟩ = some (.int .i64 0) := (blk_cell bg.out 1).trans rfl
   have hfs38 := blk_frozen bg.out 1
   have hns38_0 := a3.out
   have hns38_1 := a4.out
   have hns38_2 := a6.out
   have hms38_0 := a9.out
   have hms38_1 := ba.out
   have hms38_2 := a5.out
   refine skip_ (w1 := ?_) (by rfl) rfl ?_ ?_
   rotate_left
   ·go_simp
    rfl
   refine hK.out _ _ ⟨aa, ab, m4_, m5_, (by rw [ha.out]; exact putSel_none (v := undef) rfl), (by (with_reducible repeat (first | refine blk_drewN ?_ _ | refine blk_drew ?_ | refine blk_alloc ?_ _ | refine blk_far ?_ a3.out _)); exact an.out), (by (with_reducible repeat (first | refine blk_drewN ?_ _ | refine blk_drew ?_ | refine blk_alloc ?_ _ | refine blk_far ?_ a4.out _)); exact ao.out), bw, fun _ _ => a5.out, fun _ _ => a6.out, fun _ h1_ => absurd ((hon 6 (by kernel_rfl)).symm.trans h1_) (by decide), fun _ => bn.out, fun _ => bo.out, fun _ => a1.out, fun _ => a7.out, fun _ => a2.out, fun _ => a8.out, fun _ h1_ => absurd ((up_self b 7).symm.trans h1_) (by decide), fun _ => bp.out, fun _ => bq.out, fun _ => a3.out, fun _ => a9.out, fun _ => a4.out, fun _ => ba.out, fun _ => (by (with_reducible repeat (first | refine blk_drewN ?_ _ | refine blk_drew ?_ | refine blk_alloc ?_ _ | refine blk_far ?_ a6.out _)); exact bh.out), fun _ => (by (with_reducible repeat (first | refine blk_drewN ?_ _ | refine blk_drew ?_ | refine blk_alloc ?_ _)); refine blk_put (cs := #[.int .i64 t108, .int .i64 0]) ?_ 1 _ rfl; (with_reducible repeat (first | refine blk_drewN ?_ _ | refine blk_drew ?_ | refine blk_alloc ?_ _)); refine blk_put (cs := #[.int .i64 0, .int .i64 0]) ?_ 0 _ rfl; (with_reducible repeat (first | refine blk_drewN ?_ _ | refine blk_drew ?_ | refine blk_alloc ?_ _)); exact bg.out), bb, bc⟩
  exact steps_nil
 rintro b a w38 hall ⟨aa, ab, m4_, m5_, ha, ap, aq, bf, ak, al, av, aw, ax, ac, ad, ae, af, au, ay, az, ag, ah, ai, aj, ar, a0, bb, bc⟩
 clear an ao HB
 have hb0_ := hall 0 (by kernel_rfl)
 have hb1_ := hall 1 (by kernel_rfl)
 have hb2_ := hall 2 (by kernel_rfl)
 have hb3_ := hall 3 (by kernel_rfl)
 have hb4_ := hall 4 (by kernel_rfl)
 have hb5_ := hall 5 (by kernel_rfl)
 have hb6_ := hall 6 (by kernel_rfl)
 have hb7_ := hall 7 (by kernel_rfl)
 subst ha
 obtain rfl := bb hb4_
 obtain rfl := bc hb5_
 simp only [putSel, hb0_, hb1_, hb2_, hb3_, hb4_, hb5_, hb6_, hb7_, if_true, Act.put, sl1, sl2, sl3]
 have an := Aside0.mk ap
 clear ap
 have ao := Aside0.mk aq
 clear aq
 have HB := Aside0.mk bf
 clear bf
 have a5 := Aside0.mk (ak hb4_ hb5_)
 clear ak
 have a6 := Aside0.mk (al hb4_ hb5_)
 clear al
 clear av
 have bn := Aside0.mk (aw hb4_)
 clear aw
 have bo := Aside0.mk (ax hb4_)
 clear ax
 have a1 := Aside0.mk (ac hb4_)
 clear ac
 have a7 := Aside0.mk (ad hb4_)
 clear ad
 have a2 := Aside0.mk (ae hb4_)
 clear ae
 have a8 := Aside0.mk (af hb4_)
 clear af
 clear au
 have bp := Aside0.mk (ay hb5_)
 clear ay
 have bq := Aside0.mk (az hb5_)
 clear az
 have a3 := Aside0.mk (ag hb5_)
 clear ag
 have a9 := Aside0.mk (ah hb5_)
 clear ah
 have a4 := Aside0.mk (ai hb5_)
 clear ai
 have ba := Aside0.mk (aj hb5_)
 clear aj
 have bh := Aside0.mk (ar hb6_)
 clear ar
 have bg := Aside0.mk (a0 hb7_)
 clear a0
 clear hall hb0_ hb1_ hb2_ hb3_ hb4_ hb5_ hb6_ hb7_
 have hnb39 := a7.out
 have hnc39 := a1.out
 have hnb40 := a8.out
 have hnc40 := a2.out
 have hnb41 := a6.out
 have hnc41 := a5.out
 obtain ⟨hcz42_0, hcz42_1, hfz42_0, hfz42_1⟩ := bx2 bh.out
 have hnb43 := a9.out
 have hnc43 := a3.out
 have hnb44 := ba.out
 have hnc44 := a4.out
 obtain ⟨hcz45_0, hcz45_1, hfz45_0, hfz45_1⟩ := bx2 bg.out
 have H := HhZ.out
 clear HhZ
 by_cases c26 : t106 = t108; rotate_left
 ·rw [if_neg c26] at H
  have bu : (t106 == t108) = false := beq_eq_false_iff_ne.mpr c26
  (try simp only [bu, Bool.not_true, Bool.not_false, Bool.false_or, Bool.true_or, Bool.true_and, Bool.false_and, Bool.true_beq, Bool.false_beq, beq_true, beq_false] at b2)
  have c26b1 : (t106 != t108) = true := bne_iff_ne.mpr c26
  obtain rfl := Option.some.inj H
  try go_wp2
  go_ret
  exact ⟨er, bw⟩
 rw [if_pos c26] at H
 have bu : (t106 == t108) = true := beq_iff_eq.mpr c26
 (try simp only [bu, Bool.not_true, Bool.not_false, Bool.false_or, Bool.true_or, Bool.true_and, Bool.false_and, Bool.true_beq, Bool.false_beq, beq_true, beq_false] at b2)
 have c26b1 : (t106 != t108) = false := bne_eq_false_iff_eq.mpr c26
 clear c26
 obtain rfl := Option.some.inj H
 try go_wp2
 go_ret
 exact ⟨er, bw⟩

end Go.Proofs.YtnmcknfkmelnbaaDoor.P
