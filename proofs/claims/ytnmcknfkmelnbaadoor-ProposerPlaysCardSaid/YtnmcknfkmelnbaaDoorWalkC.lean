import Derived.Test.YtnmcknfkmelnbaaDoorWalkA
import Derived.Outline
import Derived.Laws.BitsAllLaws
import Derived.WalkSpells
import Derived.StillTailTactics
namespace Go.Proofs.YtnmcknfkmelnbaaDoor.P
open Go.RowKit Go.Proofs.YtnmcknfkmelnbaaDoorW.PrintWords Go.Proofs.YtnmcknfkmelnbaaDoorW.PrintLast Go.Proofs.YtnmcknfkmelnbaaDoorW.PrintMore
attribute [local go_sem] max2_int min2_int max_two min_two max_three min_three max_four min_four
set_option linter.unusedVariables false
set_option linter.unusedSimpArgs false
attribute [local go_sem high] eqA23
set_option maxHeartbeats 4000000 in
set_option maxRecDepth 100000 in
theorem tell_c1 (g : Nat) (p : PrS) (own : ByteArray) (w : World) (HP : Aside0 (PrIs w g p)) (c0 : (p.st != 0) = true) :
    Calls Tryd.prog 13 #[.pointer (some ⟨g, 0, none⟩), .string own] w fun e w' => e = .returned (.tuple #[.string p.val, .int .i64 0]) ∧ PrIs w' g p ∧ Only w w' (· = g) := by
  have hc28 := HP.out.high.2.2.2.2.2.1
  have hc29 := HP.out.high.2.2.2.2.2.2
  go_enter Tryd.func13, Tryd.ntmps13
  go_wp2
  go_ret2
  exact ⟨rfl, HP.out, Only.refl _ _⟩
theorem PrIs.rprom {W : World} {g : Nat} {p : PrS} (h : PrIs W g p) : W.cell? ⟨g, 9, none⟩ = some (.bool (p.prom.getD 0 false)) ∧ W.cell? ⟨g, 10, none⟩ = some (.bool (p.prom.getD 1 false)) ∧ W.cell? ⟨g, 11, none⟩ = some (.bool (p.prom.getD 2 false)) ∧ W.cell? ⟨g, 12, none⟩ = some (.bool (p.prom.getD 3 false)) ∧ W.cell? ⟨g, 13, none⟩ = some (.bool (p.prom.getD 4 false)) ∧ W.cell? ⟨g, 14, none⟩ = some (.bool (p.prom.getD 5 false)) ∧ W.cell? ⟨g, 15, none⟩ = some (.bool (p.prom.getD 6 false)) :=
  ⟨h.prom 0 (by decide), h.prom 1 (by decide), h.prom 2 (by decide), h.prom 3 (by decide), h.prom 4 (by decide), h.prom 5 (by decide), h.prom 6 (by decide)⟩
theorem PrIs.rnodes {W : World} {g : Nat} {p : PrS} (h : PrIs W g p) : W.cell? ⟨g, 2, none⟩ = some (.bool (p.nodes.getD 0 false)) ∧ W.cell? ⟨g, 3, none⟩ = some (.bool (p.nodes.getD 1 false)) ∧ W.cell? ⟨g, 4, none⟩ = some (.bool (p.nodes.getD 2 false)) ∧ W.cell? ⟨g, 5, none⟩ = some (.bool (p.nodes.getD 3 false)) ∧ W.cell? ⟨g, 6, none⟩ = some (.bool (p.nodes.getD 4 false)) ∧ W.cell? ⟨g, 7, none⟩ = some (.bool (p.nodes.getD 5 false)) ∧ W.cell? ⟨g, 8, none⟩ = some (.bool (p.nodes.getD 6 false)) :=
  ⟨h.nodes 0 (by decide), h.nodes 1 (by decide), h.nodes 2 (by decide), h.nodes 3 (by decide), h.nodes 4 (by decide), h.nodes 5 (by decide), h.nodes 6 (by decide)⟩
theorem PrIs.rcntd {W : World} {g : Nat} {p : PrS} (h : PrIs W g p) : W.cell? ⟨g, 16, none⟩ = some (.bool (p.cntd.getD 0 false)) ∧ W.cell? ⟨g, 17, none⟩ = some (.bool (p.cntd.getD 1 false)) ∧ W.cell? ⟨g, 18, none⟩ = some (.bool (p.cntd.getD 2 false)) ∧ W.cell? ⟨g, 19, none⟩ = some (.bool (p.cntd.getD 3 false)) ∧ W.cell? ⟨g, 20, none⟩ = some (.bool (p.cntd.getD 4 false)) ∧ W.cell? ⟨g, 21, none⟩ = some (.bool (p.cntd.getD 5 false)) ∧ W.cell? ⟨g, 22, none⟩ = some (.bool (p.cntd.getD 6 false)) :=
  ⟨h.cntd 0 (by decide), h.cntd 1 (by decide), h.cntd 2 (by decide), h.cntd 3 (by decide), h.cntd 4 (by decide), h.cntd 5 (by decide), h.cntd 6 (by decide)⟩
theorem bcnt_7 (p : List Bool) (h : p.length = 7) : bcnt [p.getD 0 false, p.getD 1 false, p.getD 2 false, p.getD 3 false, p.getD 4 false, p.getD 5 false, p.getD 6 false] = bcnt p := by
  obtain ⟨_, _, _, _, _, _, _, rfl⟩ := list7 h
  rfl
theorem bcnt_le7 (p : List Bool) (h : p.length = 7) : bcnt p ≤ 7 := by
  unfold bcnt
  exact Nat.le_trans List.count_le_length (by rw [h]; exact Nat.le_refl _)
theorem PrIs.drew {W : World} {g : Nat} {p : PrS} (h : PrIs W g p) : PrIs W.drew g p := h.below (below_drew (Below.refl _ _))
theorem many_prom (g : Nat) (p : PrS) (w W : World) (h : PrIs W g p ∧ Below w.heap.size w W) (n : Nat) (hn : bcnt p.prom = n) : Calls Tryd.prog 33 #[.agg #[.bool (p.prom.getD 0 false), .bool (p.prom.getD 1 false), .bool (p.prom.getD 2 false), .bool (p.prom.getD 3 false), .bool (p.prom.getD 4 false), .bool (p.prom.getD 5 false), .bool (p.prom.getD 6 false)]] W fun e w' => e = .returned (.int .i64 (n : Int)) ∧ PrIs w' g p ∧ Below w.heap.size w w' :=
  (many_calls _ _ _ _ _ _ _ W).mono (fun e w' ⟨h1, h2⟩ => ⟨by rw [h1, bcnt_7 _ h.1.l2, hn], h.1.below h2, h.2.trans (h2.mono h.2.size)⟩)
theorem many_nodes (g : Nat) (p : PrS) (w W : World) (h : PrIs W g p ∧ Below w.heap.size w W) (n : Nat) (hn : bcnt p.nodes = n) : Calls Tryd.prog 33 #[.agg #[.bool (p.nodes.getD 0 false), .bool (p.nodes.getD 1 false), .bool (p.nodes.getD 2 false), .bool (p.nodes.getD 3 false), .bool (p.nodes.getD 4 false), .bool (p.nodes.getD 5 false), .bool (p.nodes.getD 6 false)]] W fun e w' => e = .returned (.int .i64 (n : Int)) ∧ PrIs w' g p ∧ Below w.heap.size w w' :=
  (many_calls _ _ _ _ _ _ _ W).mono (fun e w' ⟨h1, h2⟩ => ⟨by rw [h1, bcnt_7 _ h.1.l1, hn], h.1.below h2, h.2.trans (h2.mono h.2.size)⟩)
theorem many_cntd (g : Nat) (p : PrS) (w W : World) (h : PrIs W g p ∧ Below w.heap.size w W) (n : Nat) (hn : bcnt p.cntd = n) : Calls Tryd.prog 33 #[.agg #[.bool (p.cntd.getD 0 false), .bool (p.cntd.getD 1 false), .bool (p.cntd.getD 2 false), .bool (p.cntd.getD 3 false), .bool (p.cntd.getD 4 false), .bool (p.cntd.getD 5 false), .bool (p.cntd.getD 6 false)]] W fun e w' => e = .returned (.int .i64 (n : Int)) ∧ PrIs w' g p ∧ Below w.heap.size w w' :=
  (many_calls _ _ _ _ _ _ _ W).mono (fun e w' ⟨h1, h2⟩ => ⟨by rw [h1, bcnt_7 _ h.1.l3, hn], h.1.below h2, h.2.trans (h2.mono h.2.size)⟩)
def tellR.T3 : Bool × List (List Nat × List Nat) := (true, [([], []), ([0], [0]), ([1], [1]), ([2], [2]), ([3], [3]), ([4], [4]), ([], []), ([6], [6]), ([7], [7]), ([8], [8]), ([9, 4], [9]), ([5, 10], [5, 10])])
def tellR.B3 : List Nat := [0, 1, 3, 7, 15, 31, 0, 64, 192, 448, 991, 2047]
theorem tellR.tab3 : rtab .any (opsOf Tryd.f13 3) = tellR.T3 := by kernel_rfl
theorem tellR.bits3 : waitsOk tellR.T3.2 tellR.B3 = true := by kernel_rfl
set_option maxHeartbeats 4000000 in
set_option maxRecDepth 100000 in
theorem tell_c2 (g : Nat) (p : PrS) (own : ByteArray) (w : World) (HP : Aside0 (PrIs w g p)) (c0 : (p.st != 0) = false) (HC : 2 * bcnt p.prom ≤ bcnt p.nodes) :
    Calls Tryd.prog 13 #[.pointer (some ⟨g, 0, none⟩), .string own] w fun e w' => e = .returned (.tuple #[.string ⟨#[]⟩, .int .i64 12]) ∧ PrIs w' g p ∧ Only w w' (· = g) := by
  have hc28 := HP.out.high.2.2.2.2.2.1
  obtain ⟨m, hm⟩ : ∃ m, bcnt p.prom = m := ⟨_, rfl⟩
  obtain ⟨n, hn⟩ : ∃ n, bcnt p.nodes = n := ⟨_, rfl⟩
  have hm7 := bcnt_le7 _ HP.out.l2
  have hn7 := bcnt_le7 _ HP.out.l1
  rw [hm] at hm7
  rw [hn] at hn7
  have HM := Aside0.mk (fun W h => many_prom g p w W h m hm)
  have HN := Aside0.mk (fun W h => many_nodes g p w W h n hn)
  rw [hm, hn] at HC
  clear hm hn
  have hdec : decide (wrap64 (2 * (m : Int)) ≤ (n : Int)) = true := decide_eq_true (by unfold wrap64; omega)
  clear HC
  go_enter Tryd.func13, Tryd.ntmps13
  go_wp2
  refine start_ (n := 12) (S := fun W => PrIs W g p ∧ Below w.heap.size w W) (ds := []) (bz 12 0) (by kernel_rfl) rfl rfl ⟨HP.out.drew, below_drew (Below.refl _ _)⟩ (fun hHeld => ?_); refine with_tabW tellR.tab3 tellR.bits3 (fun HT_ HW_ => ?_)
  refine pu_ 0 (some 15) (bz 12 1) HT_.out ?_
  refine pu_ 1 (some 16) (bz 12 3) HT_.out ?_
  refine pu_ 2 (some 17) (bz 12 7) HT_.out ?_
  refine pu_ 6 (some 21) (bz 12 71) HT_.out ?_
  refine pu_ 7 (some 22) (bz 12 199) HT_.out ?_
  refine pu_ 8 (some 23) (bz 12 455) HT_.out ?_
  refine take_ (i := 3) (N := (some 18)) (v := ?_) (a' := ?_) (bz 12 463) rfl rfl (take_ofW HT_.out HW_.out (by kernel_rfl)) (fun _ _ _ h => h) (Or.inl ⟨by rfl, ?_⟩) hHeld ?_ ?_
  rotate_left
  · rintro w' ⟨s0, _⟩
    obtain ⟨z0, z1, z2, z3, z4, z5, z6⟩ := s0.rprom
    go_simp
    with_reducible rfl
  rotate_left
  · simp only [Act.put, sl1, sl2, sl3, i64_w, i32_w]
    rfl
  refine take_ (i := 9) (N := (some 24)) (v := ?_) (a' := ?_) (bz 12 975) rfl rfl (take_ofW HT_.out HW_.out (by kernel_rfl)) (fun _ _ _ h => h) (Or.inl ⟨by rfl, ?_⟩) hHeld ?_ ?_
  rotate_left
  · rintro w' ⟨s0, _⟩
    obtain ⟨z0, z1, z2, z3, z4, z5, z6⟩ := s0.rnodes
    go_simp
    with_reducible rfl
  rotate_left
  · simp only [Act.put, sl1, sl2, sl3, i64_w, i32_w]
    rfl
  refine one_ (i := 4) (N := (some 19)) (bz 12 991) rfl rfl (one_of HT_.out (by kernel_rfl)) (by decide) (fun K hK => ?_)
  refine goes_ Tryd.func33 (by kernel_rfl) rfl #[.agg #[.bool (p.prom.getD 0 false), .bool (p.prom.getD 1 false), .bool (p.prom.getD 2 false), .bool (p.prom.getD 3 false), .bool (p.prom.getD 4 false), .bool (p.prom.getD 5 false), .bool (p.prom.getD 6 false)]] (by rfl) rfl rfl am ?_
  refine (HM.out _ hHeld).mono ?_
  rintro e w1 ⟨rfl, hb⟩
  refine ⟨_, rfl, ?_⟩
  refine hK.out _ _ hb (fun hHeld => ?_)
  clear hK K
  refine norm_ (a' := ?_) ?_ ?_
  rotate_left
  · show Act.put _ (some 19) _ = _
    simp only [Act.put, sl1, sl2, sl3, i64_w, i32_w]
    rfl
  refine pu_ 5 (some 20) (bz 12 1023) HT_.out ?_
  refine one_ (i := 10) (N := (some 25)) (bz 12 2047) rfl rfl (one_of HT_.out (by kernel_rfl)) (by decide) (fun K hK => ?_)
  refine goes_ Tryd.func33 (by kernel_rfl) rfl #[.agg #[.bool (p.nodes.getD 0 false), .bool (p.nodes.getD 1 false), .bool (p.nodes.getD 2 false), .bool (p.nodes.getD 3 false), .bool (p.nodes.getD 4 false), .bool (p.nodes.getD 5 false), .bool (p.nodes.getD 6 false)]] (by rfl) rfl rfl am ?_
  refine (HN.out _ hHeld).mono ?_
  rintro e w2 ⟨rfl, hb2⟩
  refine ⟨_, rfl, ?_⟩
  refine hK.out _ _ hb2 (fun hHeld => ?_)
  clear hK K
  refine norm_ (a' := ?_) ?_ ?_
  rotate_left
  · show Act.put _ (some 25) _ = _
    simp only [Act.put, sl1, sl2, sl3, i64_w, i32_w]
    rfl
  refine pu_ 11 (some 26) (bz 12 4095) HT_.out ?_
  refine done_ (done_of HT_.out (by kernel_rfl)) ?_
  obtain ⟨HP3, HB3⟩ := hHeld
  have HP4 := Aside0.mk HP3
  have HB4 := Aside0.mk HB3
  clear HP3 HB3 HT_ HW_ hb hc28
  go_wp2
  go_ret2
  exact ⟨rfl, HP4.out, Only.of_below HB4.out⟩
set_option maxHeartbeats 4000000 in
set_option maxRecDepth 100000 in
theorem tell_c3own (g : Nat) (p : PrS) (own : ByteArray) (w : World) (HP : Aside0 (PrIs w g p)) (c0 : (p.st != 0) = false) (HC : ¬ 2 * bcnt p.prom ≤ bcnt p.nodes) (c1 : (!(p.best.c == 0) || (!(p.best.d == 0))) = false) (c2 : decide (100000 < (own.size : Int)) = true) (c2b : decide (100000 < own.size) = true) :
    Calls Tryd.prog 13 #[.pointer (some ⟨g, 0, none⟩), .string own] w fun e w' => e = .returned (.tuple #[.string ⟨#[]⟩, .int .i64 3]) ∧ PrIs w' g p ∧ Only w w' (· = g) := by
  have hc28 := HP.out.high.2.2.2.2.2.1
  obtain ⟨m, hm⟩ : ∃ m, bcnt p.prom = m := ⟨_, rfl⟩
  obtain ⟨n, hn⟩ : ∃ n, bcnt p.nodes = n := ⟨_, rfl⟩
  have hm7 := bcnt_le7 _ HP.out.l2
  have hn7 := bcnt_le7 _ HP.out.l1
  rw [hm] at hm7
  rw [hn] at hn7
  have HM := Aside0.mk (fun W h => many_prom g p w W h m hm)
  have HN := Aside0.mk (fun W h => many_nodes g p w W h n hn)
  rw [hm, hn] at HC
  clear hm hn
  have hdec : decide (wrap64 (2 * (m : Int)) ≤ (n : Int)) = false := decide_eq_false (by unfold wrap64; omega)
  clear HC
  go_enter Tryd.func13, Tryd.ntmps13
  go_wp2
  refine start_ (n := 12) (S := fun W => PrIs W g p ∧ Below w.heap.size w W) (ds := []) (bz 12 0) (by kernel_rfl) rfl rfl ⟨HP.out.drew, below_drew (Below.refl _ _)⟩ (fun hHeld => ?_); refine with_tabW tellR.tab3 tellR.bits3 (fun HT_ HW_ => ?_)
  refine pu_ 0 (some 15) (bz 12 1) HT_.out ?_
  refine pu_ 1 (some 16) (bz 12 3) HT_.out ?_
  refine pu_ 2 (some 17) (bz 12 7) HT_.out ?_
  refine pu_ 6 (some 21) (bz 12 71) HT_.out ?_
  refine pu_ 7 (some 22) (bz 12 199) HT_.out ?_
  refine pu_ 8 (some 23) (bz 12 455) HT_.out ?_
  refine take_ (i := 3) (N := (some 18)) (v := ?_) (a' := ?_) (bz 12 463) rfl rfl (take_ofW HT_.out HW_.out (by kernel_rfl)) (fun _ _ _ h => h) (Or.inl ⟨by rfl, ?_⟩) hHeld ?_ ?_
  rotate_left
  · rintro w' ⟨s0, _⟩
    obtain ⟨z0, z1, z2, z3, z4, z5, z6⟩ := s0.rprom
    go_simp
    with_reducible rfl
  rotate_left
  · simp only [Act.put, sl1, sl2, sl3, i64_w, i32_w]
    rfl
  refine take_ (i := 9) (N := (some 24)) (v := ?_) (a' := ?_) (bz 12 975) rfl rfl (take_ofW HT_.out HW_.out (by kernel_rfl)) (fun _ _ _ h => h) (Or.inl ⟨by rfl, ?_⟩) hHeld ?_ ?_
  rotate_left
  · rintro w' ⟨s0, _⟩
    obtain ⟨z0, z1, z2, z3, z4, z5, z6⟩ := s0.rnodes
    go_simp
    with_reducible rfl
  rotate_left
  · simp only [Act.put, sl1, sl2, sl3, i64_w, i32_w]
    rfl
  refine one_ (i := 4) (N := (some 19)) (bz 12 991) rfl rfl (one_of HT_.out (by kernel_rfl)) (by decide) (fun K hK => ?_)
  refine goes_ Tryd.func33 (by kernel_rfl) rfl #[.agg #[.bool (p.prom.getD 0 false), .bool (p.prom.getD 1 false), .bool (p.prom.getD 2 false), .bool (p.prom.getD 3 false), .bool (p.prom.getD 4 false), .bool (p.prom.getD 5 false), .bool (p.prom.getD 6 false)]] (by rfl) rfl rfl am ?_
  refine (HM.out _ hHeld).mono ?_
  rintro e w1 ⟨rfl, hb⟩
  refine ⟨_, rfl, ?_⟩
  refine hK.out _ _ hb (fun hHeld => ?_)
  clear hK K
  refine norm_ (a' := ?_) ?_ ?_
  rotate_left
  · show Act.put _ (some 19) _ = _
    simp only [Act.put, sl1, sl2, sl3, i64_w, i32_w]
    rfl
  refine pu_ 5 (some 20) (bz 12 1023) HT_.out ?_
  refine one_ (i := 10) (N := (some 25)) (bz 12 2047) rfl rfl (one_of HT_.out (by kernel_rfl)) (by decide) (fun K hK => ?_)
  refine goes_ Tryd.func33 (by kernel_rfl) rfl #[.agg #[.bool (p.nodes.getD 0 false), .bool (p.nodes.getD 1 false), .bool (p.nodes.getD 2 false), .bool (p.nodes.getD 3 false), .bool (p.nodes.getD 4 false), .bool (p.nodes.getD 5 false), .bool (p.nodes.getD 6 false)]] (by rfl) rfl rfl am ?_
  refine (HN.out _ hHeld).mono ?_
  rintro e w2 ⟨rfl, hb2⟩
  refine ⟨_, rfl, ?_⟩
  refine hK.out _ _ hb2 (fun hHeld => ?_)
  clear hK K
  refine norm_ (a' := ?_) ?_ ?_
  rotate_left
  · show Act.put _ (some 25) _ = _
    simp only [Act.put, sl1, sl2, sl3, i64_w, i32_w]
    rfl
  refine pu_ 11 (some 26) (bz 12 4095) HT_.out ?_
  refine done_ (done_of HT_.out (by kernel_rfl)) ?_
  obtain ⟨HP3, HB3⟩ := hHeld
  have HP4 := Aside0.mk HP3
  have HB4 := Aside0.mk HB3
  clear HP3 HB3 HT_ HW_ hb hc28
  obtain ⟨hb0, hb1, hb2, hb3, hb4, hb5, hb6⟩ := HP4.out.high
  clear hb0 hb1
  have hf0 := HP4.out.frozen 28
  have hf1 := HP4.out.frozen 29
  go_wp2
  go_ret2
  exact ⟨rfl, HP4.out, Only.of_below HB4.out⟩
set_option maxHeartbeats 4000000 in
set_option maxRecDepth 100000 in
theorem tell_c4own (g : Nat) (p : PrS) (own : ByteArray) (w : World) (HP : Aside0 (PrIs w g p)) (c0 : (p.st != 0) = false) (HC : ¬ 2 * bcnt p.prom ≤ bcnt p.nodes) (c1 : (!(p.best.c == 0) || (!(p.best.d == 0))) = false) (c2 : decide (100000 < (own.size : Int)) = false) (c2b : decide (100000 < own.size) = false) :
    Calls Tryd.prog 13 #[.pointer (some ⟨g, 0, none⟩), .string own] w fun e w' => e = .returned (.tuple #[.string own, .int .i64 0]) ∧ PrIs w' g { p with st := 1, val := own } ∧ Only w w' (· = g) := by
  have hc28 := HP.out.high.2.2.2.2.2.1
  obtain ⟨m, hm⟩ : ∃ m, bcnt p.prom = m := ⟨_, rfl⟩
  obtain ⟨n, hn⟩ : ∃ n, bcnt p.nodes = n := ⟨_, rfl⟩
  have hm7 := bcnt_le7 _ HP.out.l2
  have hn7 := bcnt_le7 _ HP.out.l1
  rw [hm] at hm7
  rw [hn] at hn7
  have HM := Aside0.mk (fun W h => many_prom g p w W h m hm)
  have HN := Aside0.mk (fun W h => many_nodes g p w W h n hn)
  rw [hm, hn] at HC
  clear hm hn
  have hdec : decide (wrap64 (2 * (m : Int)) ≤ (n : Int)) = false := decide_eq_false (by unfold wrap64; omega)
  clear HC
  go_enter Tryd.func13, Tryd.ntmps13
  go_wp2
  refine start_ (n := 12) (S := fun W => PrIs W g p ∧ Below w.heap.size w W) (ds := []) (bz 12 0) (by kernel_rfl) rfl rfl ⟨HP.out.drew, below_drew (Below.refl _ _)⟩ (fun hHeld => ?_); refine with_tabW tellR.tab3 tellR.bits3 (fun HT_ HW_ => ?_)
  refine pu_ 0 (some 15) (bz 12 1) HT_.out ?_
  refine pu_ 1 (some 16) (bz 12 3) HT_.out ?_
  refine pu_ 2 (some 17) (bz 12 7) HT_.out ?_
  refine pu_ 6 (some 21) (bz 12 71) HT_.out ?_
  refine pu_ 7 (some 22) (bz 12 199) HT_.out ?_
  refine pu_ 8 (some 23) (bz 12 455) HT_.out ?_
  refine take_ (i := 3) (N := (some 18)) (v := ?_) (a' := ?_) (bz 12 463) rfl rfl (take_ofW HT_.out HW_.out (by kernel_rfl)) (fun _ _ _ h => h) (Or.inl ⟨by rfl, ?_⟩) hHeld ?_ ?_
  rotate_left
  · rintro w' ⟨s0, _⟩
    obtain ⟨z0, z1, z2, z3, z4, z5, z6⟩ := s0.rprom
    go_simp
    with_reducible rfl
  rotate_left
  · simp only [Act.put, sl1, sl2, sl3, i64_w, i32_w]
    rfl
  refine take_ (i := 9) (N := (some 24)) (v := ?_) (a' := ?_) (bz 12 975) rfl rfl (take_ofW HT_.out HW_.out (by kernel_rfl)) (fun _ _ _ h => h) (Or.inl ⟨by rfl, ?_⟩) hHeld ?_ ?_
  rotate_left
  · rintro w' ⟨s0, _⟩
    obtain ⟨z0, z1, z2, z3, z4, z5, z6⟩ := s0.rnodes
    go_simp
    with_reducible rfl
  rotate_left
  · simp only [Act.put, sl1, sl2, sl3, i64_w, i32_w]
    rfl
  refine one_ (i := 4) (N := (some 19)) (bz 12 991) rfl rfl (one_of HT_.out (by kernel_rfl)) (by decide) (fun K hK => ?_)
  refine goes_ Tryd.func33 (by kernel_rfl) rfl #[.agg #[.bool (p.prom.getD 0 false), .bool (p.prom.getD 1 false), .bool (p.prom.getD 2 false), .bool (p.prom.getD 3 false), .bool (p.prom.getD 4 false), .bool (p.prom.getD 5 false), .bool (p.prom.getD 6 false)]] (by rfl) rfl rfl am ?_
  refine (HM.out _ hHeld).mono ?_
  rintro e w1 ⟨rfl, hb⟩
  refine ⟨_, rfl, ?_⟩
  refine hK.out _ _ hb (fun hHeld => ?_)
  clear hK K
  refine norm_ (a' := ?_) ?_ ?_
  rotate_left
  · show Act.put _ (some 19) _ = _
    simp only [Act.put, sl1, sl2, sl3, i64_w, i32_w]
    rfl
  refine pu_ 5 (some 20) (bz 12 1023) HT_.out ?_
  refine one_ (i := 10) (N := (some 25)) (bz 12 2047) rfl rfl (one_of HT_.out (by kernel_rfl)) (by decide) (fun K hK => ?_)
  refine goes_ Tryd.func33 (by kernel_rfl) rfl #[.agg #[.bool (p.nodes.getD 0 false), .bool (p.nodes.getD 1 false), .bool (p.nodes.getD 2 false), .bool (p.nodes.getD 3 false), .bool (p.nodes.getD 4 false), .bool (p.nodes.getD 5 false), .bool (p.nodes.getD 6 false)]] (by rfl) rfl rfl am ?_
  refine (HN.out _ hHeld).mono ?_
  rintro e w2 ⟨rfl, hb2⟩
  refine ⟨_, rfl, ?_⟩
  refine hK.out _ _ hb2 (fun hHeld => ?_)
  clear hK K
  refine norm_ (a' := ?_) ?_ ?_
  rotate_left
  · show Act.put _ (some 25) _ = _
    simp only [Act.put, sl1, sl2, sl3, i64_w, i32_w]
    rfl
  refine pu_ 11 (some 26) (bz 12 4095) HT_.out ?_
  refine done_ (done_of HT_.out (by kernel_rfl)) ?_
  obtain ⟨HP3, HB3⟩ := hHeld
  have HP4 := Aside0.mk HP3
  have HB4 := Aside0.mk HB3
  clear HP3 HB3 HT_ HW_ hb hc28
  obtain ⟨hb0, hb1, hb2, hb3, hb4, hb5, hb6⟩ := HP4.out.high
  clear hb0 hb1
  have hf0 := HP4.out.frozen 28
  have hf1 := HP4.out.frozen 29
  go_wp2
  go_ret2
  exact ⟨rfl, (HP4.out.set_st 1).set_val own, ((Only.of_below HB4.out).set_ _ _).set_ _ _⟩
set_option maxHeartbeats 4000000 in
set_option maxRecDepth 100000 in
theorem tell_c3best (g : Nat) (p : PrS) (own : ByteArray) (w : World) (HP : Aside0 (PrIs w g p)) (c0 : (p.st != 0) = false) (HC : ¬ 2 * bcnt p.prom ≤ bcnt p.nodes) (c1 : (!(p.best.c == 0) || (!(p.best.d == 0))) = true) (c2 : decide (100000 < (p.best.s.size : Int)) = true) (c2b : decide (100000 < p.best.s.size) = true) :
    Calls Tryd.prog 13 #[.pointer (some ⟨g, 0, none⟩), .string own] w fun e w' => e = .returned (.tuple #[.string ⟨#[]⟩, .int .i64 3]) ∧ PrIs w' g p ∧ Only w w' (· = g) := by
  have hc28 := HP.out.high.2.2.2.2.2.1
  obtain ⟨m, hm⟩ : ∃ m, bcnt p.prom = m := ⟨_, rfl⟩
  obtain ⟨n, hn⟩ : ∃ n, bcnt p.nodes = n := ⟨_, rfl⟩
  have hm7 := bcnt_le7 _ HP.out.l2
  have hn7 := bcnt_le7 _ HP.out.l1
  rw [hm] at hm7
  rw [hn] at hn7
  have HM := Aside0.mk (fun W h => many_prom g p w W h m hm)
  have HN := Aside0.mk (fun W h => many_nodes g p w W h n hn)
  rw [hm, hn] at HC
  clear hm hn
  have hdec : decide (wrap64 (2 * (m : Int)) ≤ (n : Int)) = false := decide_eq_false (by unfold wrap64; omega)
  clear HC
  go_enter Tryd.func13, Tryd.ntmps13
  go_wp2
  refine start_ (n := 12) (S := fun W => PrIs W g p ∧ Below w.heap.size w W) (ds := []) (bz 12 0) (by kernel_rfl) rfl rfl ⟨HP.out.drew, below_drew (Below.refl _ _)⟩ (fun hHeld => ?_); refine with_tabW tellR.tab3 tellR.bits3 (fun HT_ HW_ => ?_)
  refine pu_ 0 (some 15) (bz 12 1) HT_.out ?_
  refine pu_ 1 (some 16) (bz 12 3) HT_.out ?_
  refine pu_ 2 (some 17) (bz 12 7) HT_.out ?_
  refine pu_ 6 (some 21) (bz 12 71) HT_.out ?_
  refine pu_ 7 (some 22) (bz 12 199) HT_.out ?_
  refine pu_ 8 (some 23) (bz 12 455) HT_.out ?_
  refine take_ (i := 3) (N := (some 18)) (v := ?_) (a' := ?_) (bz 12 463) rfl rfl (take_ofW HT_.out HW_.out (by kernel_rfl)) (fun _ _ _ h => h) (Or.inl ⟨by rfl, ?_⟩) hHeld ?_ ?_
  rotate_left
  · rintro w' ⟨s0, _⟩
    obtain ⟨z0, z1, z2, z3, z4, z5, z6⟩ := s0.rprom
    go_simp
    with_reducible rfl
  rotate_left
  · simp only [Act.put, sl1, sl2, sl3, i64_w, i32_w]
    rfl
  refine take_ (i := 9) (N := (some 24)) (v := ?_) (a' := ?_) (bz 12 975) rfl rfl (take_ofW HT_.out HW_.out (by kernel_rfl)) (fun _ _ _ h => h) (Or.inl ⟨by rfl, ?_⟩) hHeld ?_ ?_
  rotate_left
  · rintro w' ⟨s0, _⟩
    obtain ⟨z0, z1, z2, z3, z4, z5, z6⟩ := s0.rnodes
    go_simp
    with_reducible rfl
  rotate_left
  · simp only [Act.put, sl1, sl2, sl3, i64_w, i32_w]
    rfl
  refine one_ (i := 4) (N := (some 19)) (bz 12 991) rfl rfl (one_of HT_.out (by kernel_rfl)) (by decide) (fun K hK => ?_)
  refine goes_ Tryd.func33 (by kernel_rfl) rfl #[.agg #[.bool (p.prom.getD 0 false), .bool (p.prom.getD 1 false), .bool (p.prom.getD 2 false), .bool (p.prom.getD 3 false), .bool (p.prom.getD 4 false), .bool (p.prom.getD 5 false), .bool (p.prom.getD 6 false)]] (by rfl) rfl rfl am ?_
  refine (HM.out _ hHeld).mono ?_
  rintro e w1 ⟨rfl, hb⟩
  refine ⟨_, rfl, ?_⟩
  refine hK.out _ _ hb (fun hHeld => ?_)
  clear hK K
  refine norm_ (a' := ?_) ?_ ?_
  rotate_left
  · show Act.put _ (some 19) _ = _
    simp only [Act.put, sl1, sl2, sl3, i64_w, i32_w]
    rfl
  refine pu_ 5 (some 20) (bz 12 1023) HT_.out ?_
  refine one_ (i := 10) (N := (some 25)) (bz 12 2047) rfl rfl (one_of HT_.out (by kernel_rfl)) (by decide) (fun K hK => ?_)
  refine goes_ Tryd.func33 (by kernel_rfl) rfl #[.agg #[.bool (p.nodes.getD 0 false), .bool (p.nodes.getD 1 false), .bool (p.nodes.getD 2 false), .bool (p.nodes.getD 3 false), .bool (p.nodes.getD 4 false), .bool (p.nodes.getD 5 false), .bool (p.nodes.getD 6 false)]] (by rfl) rfl rfl am ?_
  refine (HN.out _ hHeld).mono ?_
  rintro e w2 ⟨rfl, hb2⟩
  refine ⟨_, rfl, ?_⟩
  refine hK.out _ _ hb2 (fun hHeld => ?_)
  clear hK K
  refine norm_ (a' := ?_) ?_ ?_
  rotate_left
  · show Act.put _ (some 25) _ = _
    simp only [Act.put, sl1, sl2, sl3, i64_w, i32_w]
    rfl
  refine pu_ 11 (some 26) (bz 12 4095) HT_.out ?_
  refine done_ (done_of HT_.out (by kernel_rfl)) ?_
  obtain ⟨HP3, HB3⟩ := hHeld
  have HP4 := Aside0.mk HP3
  have HB4 := Aside0.mk HB3
  clear HP3 HB3 HT_ HW_ hb hc28
  obtain ⟨hb0, hb1, hb2, hb3, hb4, hb5, hb6⟩ := HP4.out.high
  clear hb0 hb1
  have hf0 := HP4.out.frozen 28
  have hf1 := HP4.out.frozen 29
  go_wp2
  go_ret2
  exact ⟨rfl, HP4.out, Only.of_below HB4.out⟩
set_option maxHeartbeats 4000000 in
set_option maxRecDepth 100000 in
theorem tell_c4best (g : Nat) (p : PrS) (own : ByteArray) (w : World) (HP : Aside0 (PrIs w g p)) (c0 : (p.st != 0) = false) (HC : ¬ 2 * bcnt p.prom ≤ bcnt p.nodes) (c1 : (!(p.best.c == 0) || (!(p.best.d == 0))) = true) (c2 : decide (100000 < (p.best.s.size : Int)) = false) (c2b : decide (100000 < p.best.s.size) = false) :
    Calls Tryd.prog 13 #[.pointer (some ⟨g, 0, none⟩), .string own] w fun e w' => e = .returned (.tuple #[.string p.best.s, .int .i64 0]) ∧ PrIs w' g { p with st := 1, val := p.best.s } ∧ Only w w' (· = g) := by
  have hc28 := HP.out.high.2.2.2.2.2.1
  obtain ⟨m, hm⟩ : ∃ m, bcnt p.prom = m := ⟨_, rfl⟩
  obtain ⟨n, hn⟩ : ∃ n, bcnt p.nodes = n := ⟨_, rfl⟩
  have hm7 := bcnt_le7 _ HP.out.l2
  have hn7 := bcnt_le7 _ HP.out.l1
  rw [hm] at hm7
  rw [hn] at hn7
  have HM := Aside0.mk (fun W h => many_prom g p w W h m hm)
  have HN := Aside0.mk (fun W h => many_nodes g p w W h n hn)
  rw [hm, hn] at HC
  clear hm hn
  have hdec : decide (wrap64 (2 * (m : Int)) ≤ (n : Int)) = false := decide_eq_false (by unfold wrap64; omega)
  clear HC
  go_enter Tryd.func13, Tryd.ntmps13
  go_wp2
  refine start_ (n := 12) (S := fun W => PrIs W g p ∧ Below w.heap.size w W) (ds := []) (bz 12 0) (by kernel_rfl) rfl rfl ⟨HP.out.drew, below_drew (Below.refl _ _)⟩ (fun hHeld => ?_); refine with_tabW tellR.tab3 tellR.bits3 (fun HT_ HW_ => ?_)
  refine pu_ 0 (some 15) (bz 12 1) HT_.out ?_
  refine pu_ 1 (some 16) (bz 12 3) HT_.out ?_
  refine pu_ 2 (some 17) (bz 12 7) HT_.out ?_
  refine pu_ 6 (some 21) (bz 12 71) HT_.out ?_
  refine pu_ 7 (some 22) (bz 12 199) HT_.out ?_
  refine pu_ 8 (some 23) (bz 12 455) HT_.out ?_
  refine take_ (i := 3) (N := (some 18)) (v := ?_) (a' := ?_) (bz 12 463) rfl rfl (take_ofW HT_.out HW_.out (by kernel_rfl)) (fun _ _ _ h => h) (Or.inl ⟨by rfl, ?_⟩) hHeld ?_ ?_
  rotate_left
  · rintro w' ⟨s0, _⟩
    obtain ⟨z0, z1, z2, z3, z4, z5, z6⟩ := s0.rprom
    go_simp
    with_reducible rfl
  rotate_left
  · simp only [Act.put, sl1, sl2, sl3, i64_w, i32_w]
    rfl
  refine take_ (i := 9) (N := (some 24)) (v := ?_) (a' := ?_) (bz 12 975) rfl rfl (take_ofW HT_.out HW_.out (by kernel_rfl)) (fun _ _ _ h => h) (Or.inl ⟨by rfl, ?_⟩) hHeld ?_ ?_
  rotate_left
  · rintro w' ⟨s0, _⟩
    obtain ⟨z0, z1, z2, z3, z4, z5, z6⟩ := s0.rnodes
    go_simp
    with_reducible rfl
  rotate_left
  · simp only [Act.put, sl1, sl2, sl3, i64_w, i32_w]
    rfl
  refine one_ (i := 4) (N := (some 19)) (bz 12 991) rfl rfl (one_of HT_.out (by kernel_rfl)) (by decide) (fun K hK => ?_)
  refine goes_ Tryd.func33 (by kernel_rfl) rfl #[.agg #[.bool (p.prom.getD 0 false), .bool (p.prom.getD 1 false), .bool (p.prom.getD 2 false), .bool (p.prom.getD 3 false), .bool (p.prom.getD 4 false), .bool (p.prom.getD 5 false), .bool (p.prom.getD 6 false)]] (by rfl) rfl rfl am ?_
  refine (HM.out _ hHeld).mono ?_
  rintro e w1 ⟨rfl, hb⟩
  refine ⟨_, rfl, ?_⟩
  refine hK.out _ _ hb (fun hHeld => ?_)
  clear hK K
  refine norm_ (a' := ?_) ?_ ?_
  rotate_left
  · show Act.put _ (some 19) _ = _
    simp only [Act.put, sl1, sl2, sl3, i64_w, i32_w]
    rfl
  refine pu_ 5 (some 20) (bz 12 1023) HT_.out ?_
  refine one_ (i := 10) (N := (some 25)) (bz 12 2047) rfl rfl (one_of HT_.out (by kernel_rfl)) (by decide) (fun K hK => ?_)
  refine goes_ Tryd.func33 (by kernel_rfl) rfl #[.agg #[.bool (p.nodes.getD 0 false), .bool (p.nodes.getD 1 false), .bool (p.nodes.getD 2 false), .bool (p.nodes.getD 3 false), .bool (p.nodes.getD 4 false), .bool (p.nodes.getD 5 false), .bool (p.nodes.getD 6 false)]] (by rfl) rfl rfl am ?_
  refine (HN.out _ hHeld).mono ?_
  rintro e w2 ⟨rfl, hb2⟩
  refine ⟨_, rfl, ?_⟩
  refine hK.out _ _ hb2 (fun hHeld => ?_)
  clear hK K
  refine norm_ (a' := ?_) ?_ ?_
  rotate_left
  · show Act.put _ (some 25) _ = _
    simp only [Act.put, sl1, sl2, sl3, i64_w, i32_w]
    rfl
  refine pu_ 11 (some 26) (bz 12 4095) HT_.out ?_
  refine done_ (done_of HT_.out (by kernel_rfl)) ?_
  obtain ⟨HP3, HB3⟩ := hHeld
  have HP4 := Aside0.mk HP3
  have HB4 := Aside0.mk HB3
  clear HP3 HB3 HT_ HW_ hb hc28
  obtain ⟨hb0, hb1, hb2, hb3, hb4, hb5, hb6⟩ := HP4.out.high
  clear hb0 hb1
  have hf0 := HP4.out.frozen 28
  have hf1 := HP4.out.frozen 29
  go_wp2
  go_ret2
  exact ⟨rfl, (HP4.out.set_st 1).set_val p.best.s, ((Only.of_below HB4.out).set_ _ _).set_ _ _⟩
/-- What Tell answers, and leaves. -/
theorem tell_calls (g : Nat) (p : PrS) (own : ByteArray) (w : World) (h : PrIs w g p) :
    Calls Tryd.prog 13 #[.pointer (some ⟨g, 0, none⟩), .string own] w fun e w' => e = .returned (.tuple #[.string (p.tell own).2.1, .int .i64 (p.tell own).2.2]) ∧ PrIs w' g (p.tell own).1 ∧ Only w w' (· = g) := by
  have HP := Aside0.mk h
  unfold PrS.tell
  by_cases c0 : p.st = 0
  case neg =>
    rw [if_pos c0]
    exact tell_c1 g p own w HP (bne_iff_ne.mpr c0)
  have c0b : (p.st != 0) = false := bne_eq_false_iff_eq.mpr c0
  rw [if_neg (fun hh => hh c0)]
  by_cases c1 : 2 * bcnt p.prom ≤ bcnt p.nodes
  · rw [if_pos c1]
    exact tell_c2 g p own w HP c0b c1
  · rw [if_neg c1]
    unfold PrS.tellV
    by_cases c2 : p.best.c = 0 ∧ p.best.d = 0
    · rw [if_pos c2]
      have c2b : (!(p.best.c == 0) || (!(p.best.d == 0))) = false := by simp [c2.1, c2.2]
      by_cases c3 : 100000 < own.size
      · rw [if_pos c3]
        exact tell_c3own g p own w HP c0b c1 c2b (decide_eq_true (by omega)) (decide_eq_true c3)
      · rw [if_neg c3]
        exact tell_c4own g p own w HP c0b c1 c2b (decide_eq_false (by omega)) (decide_eq_false c3)
    · rw [if_neg c2]
      have c2b : (!(p.best.c == 0) || (!(p.best.d == 0))) = true := by
        by_cases e1 : p.best.c = 0 <;> by_cases e2 : p.best.d = 0 <;> simp_all
      by_cases c3 : 100000 < p.best.s.size
      · rw [if_pos c3]
        exact tell_c3best g p own w HP c0b c1 c2b (decide_eq_true (by omega)) (decide_eq_true c3)
      · rw [if_neg c3]
        exact tell_c4best g p own w HP c0b c1 c2b (decide_eq_false (by omega)) (decide_eq_false c3)

end Go.Proofs.YtnmcknfkmelnbaaDoor.P
