import Derived.Test.YtnmcknfkmelnbaaDoorWalkC
import Derived.Outline
import Derived.Laws.BitsAllLaws
import Derived.WalkSpells
import Derived.StillTailTactics
namespace Go.Proofs.YtnmcknfkmelnbaaDoor.P
open Go.RowKit Go.Proofs.YtnmcknfkmelnbaaDoorW.PrintWords Go.Proofs.YtnmcknfkmelnbaaDoorW.PrintLast Go.Proofs.YtnmcknfkmelnbaaDoorW.PrintMore
attribute [local go_sem] max2_int min2_int max_two min_two max_three min_three max_four min_four
set_option linter.unusedVariables false
set_option linter.unusedSimpArgs false
def takenR.T4 : Bool × List (List Nat × List Nat) := (true, [([], []), ([], []), ([0, 1], [0, 1]), ([2, 2], [2]), ([3], [3]), ([4, 3], [3, 4]), ([5, 3], [3, 5]), ([6, 3], [3, 6]), ([7, 3, 3], [3, 7]), ([8, 3], [3, 8]), ([9, 3], [3, 9]), ([3], [3]), ([11, 3], [3, 11]), ([12, 3], [3, 12]), ([13, 3], [3, 13]), ([14, 8, 3], [3, 14]), ([10, 15, 3], [3, 10, 15]), ([3, 16], [3, 16]), ([17, 15], [17]), ([18], [18]), ([18], [18]), ([19, 18], [18, 19]), ([21, 18], [18, 21]), ([22, 20, 18], [18, 20, 22]), ([23, 18], [18, 23]), ([24, 18], [18, 24]), ([18, 25], [18, 25])])
def takenR.B4 : List Nat := [0, 0, 3, 7, 15, 31, 63, 127, 255, 511, 1023, 15, 2063, 6159, 14351, 31231, 65535, 131071, 262143, 524287, 524287, 1048575, 3145727, 8388607, 16777215, 33554431, 67108863]
theorem takenR.tab4 : rtab .any (opsOf Tryd.f15 4) = takenR.T4 := by kernel_rfl
theorem takenR.bits4 : waitsOk takenR.T4.2 takenR.B4 = true := by kernel_rfl
set_option maxHeartbeats 4000000 in
set_option maxRecDepth 100000 in
theorem taken_z (g : Nat) (p : PrS) (node : Int) (w : World) (HP : Aside0 (PrIs w g p)) (c1 : (p.st == 1) = false) (c2 : (p.st == 2) = false) :
    Calls Tryd.prog 15 #[.pointer (some ⟨g, 0, none⟩), .int .i64 node] w fun e w' => e = .returned (.bool false) ∧ PrIs w' g p ∧ Only w w' (· = g) := by
  have hc28 := HP.out.high.2.2.2.2.2.1
  go_enter Tryd.func15, Tryd.ntmps15
  go_wp2
  go_ret
  exact ⟨rfl, HP.out, Only.refl _ _⟩
set_option maxHeartbeats 4000000 in
set_option maxRecDepth 100000 in
theorem taken_u1 (g : Nat) (p : PrS) (node : Int) (w : World) (HP : Aside0 (PrIs w g p)) (c1 : (p.st == 1) = false) (c2 : (p.st == 2) = true) (HN : bhas p.nodes node = false) :
    Calls Tryd.prog 15 #[.pointer (some ⟨g, 0, none⟩), .int .i64 node] w fun e w' => e = .returned (.bool false) ∧ PrIs w' g p ∧ Only w w' (· = g) := by
  have HND := Aside0.mk (fun W q (h : PrIs W g q ∧ q.nodes = p.nodes) => by have h2 := node_calls g q node W h.1; rw [h.2, HN] at h2; exact h2)
  have hc28 := HP.out.high.2.2.2.2.2.1
  go_enter Tryd.func15, Tryd.ntmps15
  go_wp2_with (go_at_call 28; refine (HND.out _ _ ⟨HP.out, rfl⟩).mono ?_; rintro e w' ⟨rfl, rfl⟩)
  go_ret
  exact ⟨rfl, HP.out, Only.refl _ _⟩
set_option maxHeartbeats 4000000 in
set_option maxRecDepth 100000 in
theorem taken_u2 (g : Nat) (p : PrS) (node : Int) (w : World) (HP : Aside0 (PrIs w g p)) (c1 : (p.st == 1) = false) (c2 : (p.st == 2) = true) (HN : bhas p.nodes node = true) (k0 : 0 ≤ node) (k7 : node < 7) (HM : p.cntd.getD node.toNat false = true) :
    Calls Tryd.prog 15 #[.pointer (some ⟨g, 0, none⟩), .int .i64 node] w fun e w' => e = .returned (.bool false) ∧ PrIs w' g p ∧ Only w w' (· = g) := by
  have HND := Aside0.mk (fun W q (h : PrIs W g q ∧ q.nodes = p.nodes) => by have h2 := node_calls g q node W h.1; rw [h.2, HN] at h2; exact h2)
  have hc28 := HP.out.high.2.2.2.2.2.1
  have hcc := HP.out.cntd node.toNat (by omega)
  rw [HM] at hcc
  have hfz := HP.out.frozen (16 + node.toNat)
  go_enter Tryd.func15, Tryd.ntmps15
  go_wp2_with (go_at_call 28; refine (HND.out _ _ ⟨HP.out, rfl⟩).mono ?_; rintro e w' ⟨rfl, rfl⟩)
  go_ret
  exact ⟨rfl, HP.out, Only.refl _ _⟩
set_option maxHeartbeats 4000000 in
set_option maxRecDepth 100000 in
theorem taken_u3 (g : Nat) (p : PrS) (node : Int) (w : World) (HP : Aside0 (PrIs w g p)) (c1 : (p.st == 1) = false) (c2 : (p.st == 2) = true) (HN : bhas p.nodes node = true) (k0 : 0 ≤ node) (k7 : node < 7) (HM : p.cntd.getD node.toNat false = false) :
    Calls Tryd.prog 15 #[.pointer (some ⟨g, 0, none⟩), .int .i64 node] w fun e w' => e = .returned (.bool true) ∧ PrIs w' g { p with cntd := p.cntd.set node.toNat true } ∧ Only w w' (· = g) := by
  have HND := Aside0.mk (fun W q (h : PrIs W g q ∧ q.nodes = p.nodes) => by have h2 := node_calls g q node W h.1; rw [h.2, HN] at h2; exact h2)
  have hc28 := HP.out.high.2.2.2.2.2.1
  have hcc := HP.out.cntd node.toNat (by omega)
  rw [HM] at hcc
  have hfz := HP.out.frozen (16 + node.toNat)
  go_enter Tryd.func15, Tryd.ntmps15
  go_wp2_with (go_at_call 28; refine (HND.out _ _ ⟨HP.out, rfl⟩).mono ?_; rintro e w' ⟨rfl, rfl⟩)
  go_ret
  exact ⟨rfl, HP.out.set_cntd node.toNat (by omega) true, (Only.refl _ _).set_ _ _⟩
set_option maxHeartbeats 4000000 in
set_option maxRecDepth 100000 in
theorem taken_t1 (g : Nat) (p : PrS) (node : Int) (w : World) (HP : Aside0 (PrIs w g p)) (c1 : (p.st == 1) = true) (HN : bhas p.nodes node = false) :
    Calls Tryd.prog 15 #[.pointer (some ⟨g, 0, none⟩), .int .i64 node] w fun e w' => e = .returned (.bool false) ∧ PrIs w' g p ∧ Only w w' (· = g) := by
  have HND := Aside0.mk (fun W q (h : PrIs W g q ∧ q.nodes = p.nodes) => by have h2 := node_calls g q node W h.1; rw [h.2, HN] at h2; exact h2)
  have hc28 := HP.out.high.2.2.2.2.2.1
  go_enter Tryd.func15, Tryd.ntmps15
  go_wp2
  refine start_ (n := 27) (S := fun W => PrIs W g p ∧ Below w.heap.size w W) (ds := []) (bz 27 0) (by kernel_rfl) rfl rfl ⟨HP.out.drew, below_drew (Below.refl _ _)⟩ (fun hHeld => ?_); refine with_tabW takenR.tab4 takenR.bits4 (fun HT_ HW_ => ?_)
  refine pu_ 0 (some 13) (bz 27 1) HT_.out ?_
  refine pu_ 1 (some 14) (bz 27 3) HT_.out ?_
  refine one_ (i := 2) (N := (some 15)) (bz 27 7) rfl rfl (one_of HT_.out (by kernel_rfl)) (by decide) (fun K hK => ?_)
  refine goes_ Tryd.func28 (by kernel_rfl) rfl #[.pointer (some ⟨g, 0, none⟩), .int .i64 node] (by rfl) rfl rfl am ?_
  refine (HND.out _ _ ⟨hHeld.1, rfl⟩).mono ?_
  rintro e w1 ⟨rfl, rfl⟩
  refine ⟨_, rfl, ?_⟩
  refine hK.out _ _ hHeld (fun hHeld => ?_)
  clear hK K
  refine norm_ (a' := ?_) ?_ ?_
  rotate_left
  · show Act.put _ (some 15) _ = _
    simp only [Act.put, sl1, sl2, sl3, i64_w, i32_w]
    rfl
  refine pu_ 3 (some 16) (bz 27 15) HT_.out ?_
  refine pu_ 4 (some 17) (bz 27 31) HT_.out ?_ (v := undef) (hy := Or.inr ⟨by rfl, rfl⟩)
  refine pu_ 5 (some 18) (bz 27 63) HT_.out ?_ (v := undef) (hy := Or.inr ⟨by rfl, rfl⟩)
  refine pu_ 6 (some 19) (bz 27 127) HT_.out ?_ (v := undef) (hy := Or.inr ⟨by rfl, rfl⟩)
  refine pu_ 7 (some 20) (bz 27 255) HT_.out ?_ (v := undef) (hy := Or.inr ⟨by rfl, rfl⟩)
  refine pu_ 8 (some 21) (bz 27 511) HT_.out ?_ (v := undef) (hy := Or.inr ⟨by rfl, rfl⟩)
  refine pu_ 9 (some 22) (bz 27 1023) HT_.out ?_ (v := undef) (hy := Or.inr ⟨by rfl, rfl⟩)
  refine pu_ 10 (some 23) (bz 27 2047) HT_.out ?_ (v := undef) (hy := Or.inr ⟨by rfl, rfl⟩)
  refine pu_ 11 (some 24) (bz 27 4095) HT_.out ?_ (v := undef) (hy := Or.inr ⟨by rfl, rfl⟩)
  refine pu_ 12 (some 25) (bz 27 8191) HT_.out ?_ (v := undef) (hy := Or.inr ⟨by rfl, rfl⟩)
  refine pu_ 13 (some 26) (bz 27 16383) HT_.out ?_ (v := undef) (hy := Or.inr ⟨by rfl, rfl⟩)
  refine pu_ 14 (some 27) (bz 27 32767) HT_.out ?_ (v := undef) (hy := Or.inr ⟨by rfl, rfl⟩)
  refine pu_ 15 (some 28) (bz 27 65535) HT_.out ?_ (v := undef) (hy := Or.inr ⟨by rfl, rfl⟩)
  refine pu_ 16 (some 29) (bz 27 131071) HT_.out ?_ (v := undef) (hy := Or.inr ⟨by rfl, rfl⟩)
  refine pu_ 17 (some 30) (bz 27 262143) HT_.out ?_
  refine pu_ 18 (some 31) (bz 27 524287) HT_.out ?_
  refine pu_ 19 (some 32) (bz 27 1048575) HT_.out ?_ (v := undef) (hy := Or.inr ⟨by rfl, rfl⟩)
  refine pu_ 20 (some 33) (bz 27 2097151) HT_.out ?_ (v := undef) (hy := Or.inr ⟨by rfl, rfl⟩)
  refine pu_ 21 (some 34) (bz 27 4194303) HT_.out ?_ (v := undef) (hy := Or.inr ⟨by rfl, rfl⟩)
  refine pu_ 22 (some 35) (bz 27 8388607) HT_.out ?_ (v := undef) (hy := Or.inr ⟨by rfl, rfl⟩)
  refine pu_ 23 (some 36) (bz 27 16777215) HT_.out ?_ (v := undef) (hy := Or.inr ⟨by rfl, rfl⟩)
  refine pu_ 24 (some 37) (bz 27 33554431) HT_.out ?_ (v := undef) (hy := Or.inr ⟨by rfl, rfl⟩)
  refine pu_ 25 (some 38) (bz 27 67108863) HT_.out ?_ (v := undef) (hy := Or.inr ⟨by rfl, rfl⟩)
  refine pu_ 26 (some 39) (bz 27 134217727) HT_.out ?_
  refine done_ (done_of HT_.out (by kernel_rfl)) ?_
  obtain ⟨HP3, HB3⟩ := hHeld
  have HP4 := Aside0.mk HP3
  have HB4 := Aside0.mk HB3
  clear HP3 HB3 HT_ HW_ hc28
  go_wp2_with (go_at_call 28; refine (HND.out _ _ ⟨HP4.out, rfl⟩).mono ?_; rintro e w' ⟨rfl, rfl⟩)
  go_ret
  exact ⟨rfl, HP4.out, Only.of_below HB4.out⟩
set_option maxHeartbeats 4000000 in
set_option maxRecDepth 100000 in
theorem taken_t2l (g : Nat) (p : PrS) (node : Int) (w : World) (HP : Aside0 (PrIs w g p)) (c1 : (p.st == 1) = true) (HN : bhas p.nodes node = true) (k0 : 0 ≤ node) (k7 : node < 7) (HM : p.cntd.getD node.toNat false = true) (HC : ¬ bcnt p.nodes < 2 * (bcnt p.cntd + 1)) :
    Calls Tryd.prog 15 #[.pointer (some ⟨g, 0, none⟩), .int .i64 node] w fun e w' => e = .returned (.bool false) ∧ PrIs w' g p ∧ Only w w' (· = g) := by
  have HND := Aside0.mk (fun W q (h : PrIs W g q ∧ q.nodes = p.nodes) => by have h2 := node_calls g q node W h.1; rw [h.2, HN] at h2; exact h2)
  have hc28 := HP.out.high.2.2.2.2.2.1
  obtain ⟨m, hm⟩ : ∃ m, bcnt p.cntd = m := ⟨_, rfl⟩
  obtain ⟨n, hn⟩ : ∃ n, bcnt p.nodes = n := ⟨_, rfl⟩
  have hm7 := bcnt_le7 _ HP.out.l3
  have hn7 := bcnt_le7 _ HP.out.l1
  rw [hm] at hm7
  rw [hn] at hn7
  have HMC := Aside0.mk (fun W h => many_cntd g p w W h m hm)
  have HMN := Aside0.mk (fun W h => many_nodes g p w W h n hn)
  rw [hm, hn] at HC
  clear hm hn
  have hdec : decide (wrap64 (2 * wrap64 ((m : Int) + 1)) > (n : Int)) = false := decide_eq_false (by unfold wrap64; omega)
  have hdec2 : decide ((n : Int) < wrap64 (2 * wrap64 ((m : Int) + 1))) = false := decide_eq_false (by unfold wrap64; omega)
  clear HC
  go_enter Tryd.func15, Tryd.ntmps15
  go_wp2
  refine start_ (n := 27) (S := fun W => PrIs W g p ∧ Below w.heap.size w W) (ds := []) (bz 27 0) (by kernel_rfl) rfl rfl ⟨HP.out.drew, below_drew (Below.refl _ _)⟩ (fun hHeld => ?_); refine with_tabW takenR.tab4 takenR.bits4 (fun HT_ HW_ => ?_)
  refine pu_ 0 (some 13) (bz 27 1) HT_.out ?_
  refine pu_ 1 (some 14) (bz 27 3) HT_.out ?_
  refine one_ (i := 2) (N := (some 15)) (bz 27 7) rfl rfl (one_of HT_.out (by kernel_rfl)) (by decide) (fun K hK => ?_)
  refine goes_ Tryd.func28 (by kernel_rfl) rfl #[.pointer (some ⟨g, 0, none⟩), .int .i64 node] (by rfl) rfl rfl am ?_
  refine (HND.out _ _ ⟨hHeld.1, rfl⟩).mono ?_
  rintro e w1 ⟨rfl, rfl⟩
  refine ⟨_, rfl, ?_⟩
  refine hK.out _ _ hHeld (fun hHeld => ?_)
  clear hK K
  refine norm_ (a' := ?_) ?_ ?_
  rotate_left
  · show Act.put _ (some 15) _ = _
    simp only [Act.put, sl1, sl2, sl3, i64_w, i32_w]
    rfl
  refine pu_ 3 (some 16) (bz 27 15) HT_.out ?_
  refine pu_ 4 (some 17) (bz 27 31) HT_.out ?_
  refine pu_ 5 (some 18) (bz 27 63) HT_.out ?_
  refine pu_ 6 (some 19) (bz 27 127) HT_.out ?_
  refine pu_ 11 (some 24) (bz 27 2175) HT_.out ?_
  refine pu_ 12 (some 25) (bz 27 6271) HT_.out ?_
  refine pu_ 13 (some 26) (bz 27 14463) HT_.out ?_
  refine take_ (i := 7) (N := (some 20)) (v := ?_) (a' := ?_) (bz 27 14591) rfl rfl (take_ofW HT_.out HW_.out (by kernel_rfl)) (fun _ _ _ h => h) (Or.inl ⟨by rfl, ?_⟩) hHeld ?_ ?_
  rotate_left
  · rintro w' ⟨s0, _⟩
    obtain ⟨z0, z1, z2, z3, z4, z5, z6⟩ := s0.rcntd
    go_simp
    with_reducible rfl
  rotate_left
  · simp only [Act.put, sl1, sl2, sl3, i64_w, i32_w]
    rfl
  refine take_ (i := 14) (N := (some 27)) (v := ?_) (a' := ?_) (bz 27 30975) rfl rfl (take_ofW HT_.out HW_.out (by kernel_rfl)) (fun _ _ _ h => h) (Or.inl ⟨by rfl, ?_⟩) hHeld ?_ ?_
  rotate_left
  · rintro w' ⟨s0, _⟩
    obtain ⟨z0, z1, z2, z3, z4, z5, z6⟩ := s0.rnodes
    go_simp
    with_reducible rfl
  rotate_left
  · simp only [Act.put, sl1, sl2, sl3, i64_w, i32_w]
    rfl
  refine one_ (i := 8) (N := (some 21)) (bz 27 31231) rfl rfl (one_of HT_.out (by kernel_rfl)) (by decide) (fun K hK => ?_)
  refine goes_ Tryd.func33 (by kernel_rfl) rfl #[.agg #[.bool (p.cntd.getD 0 false), .bool (p.cntd.getD 1 false), .bool (p.cntd.getD 2 false), .bool (p.cntd.getD 3 false), .bool (p.cntd.getD 4 false), .bool (p.cntd.getD 5 false), .bool (p.cntd.getD 6 false)]] (by rfl) rfl rfl am ?_
  refine (HMC.out _ hHeld).mono ?_
  rintro e w2 ⟨rfl, hb2⟩
  refine ⟨_, rfl, ?_⟩
  refine hK.out _ _ hb2 (fun hHeld => ?_)
  clear hK K
  refine norm_ (a' := ?_) ?_ ?_
  rotate_left
  · show Act.put _ (some 21) _ = _
    simp only [Act.put, sl1, sl2, sl3, i64_w, i32_w]
    rfl
  refine pu_ 9 (some 22) (bz 27 31743) HT_.out ?_
  refine pu_ 10 (some 23) (bz 27 32767) HT_.out ?_
  refine one_ (i := 15) (N := (some 28)) (bz 27 65535) rfl rfl (one_of HT_.out (by kernel_rfl)) (by decide) (fun K hK => ?_)
  refine goes_ Tryd.func33 (by kernel_rfl) rfl #[.agg #[.bool (p.nodes.getD 0 false), .bool (p.nodes.getD 1 false), .bool (p.nodes.getD 2 false), .bool (p.nodes.getD 3 false), .bool (p.nodes.getD 4 false), .bool (p.nodes.getD 5 false), .bool (p.nodes.getD 6 false)]] (by rfl) rfl rfl am ?_
  refine (HMN.out _ hHeld).mono ?_
  rintro e w3 ⟨rfl, hb3⟩
  refine ⟨_, rfl, ?_⟩
  refine hK.out _ _ hb3 (fun hHeld => ?_)
  clear hK K
  refine norm_ (a' := ?_) ?_ ?_
  rotate_left
  · show Act.put _ (some 28) _ = _
    simp only [Act.put, sl1, sl2, sl3, i64_w, i32_w]
    rfl
  refine pu_ 16 (some 29) (bz 27 131071) HT_.out ?_
  refine pu_ 17 (some 30) (bz 27 262143) HT_.out ?_
  refine pu_ 18 (some 31) (bz 27 524287) HT_.out ?_
  refine pu_ 19 (some 32) (bz 27 1048575) HT_.out ?_ (v := undef) (hy := Or.inr ⟨by rfl, rfl⟩)
  refine pu_ 20 (some 33) (bz 27 2097151) HT_.out ?_ (v := undef) (hy := Or.inr ⟨by rfl, rfl⟩)
  refine pu_ 21 (some 34) (bz 27 4194303) HT_.out ?_ (v := undef) (hy := Or.inr ⟨by rfl, rfl⟩)
  refine pu_ 22 (some 35) (bz 27 8388607) HT_.out ?_ (v := undef) (hy := Or.inr ⟨by rfl, rfl⟩)
  refine pu_ 23 (some 36) (bz 27 16777215) HT_.out ?_ (v := undef) (hy := Or.inr ⟨by rfl, rfl⟩)
  refine pu_ 24 (some 37) (bz 27 33554431) HT_.out ?_ (v := undef) (hy := Or.inr ⟨by rfl, rfl⟩)
  refine pu_ 25 (some 38) (bz 27 67108863) HT_.out ?_ (v := undef) (hy := Or.inr ⟨by rfl, rfl⟩)
  refine pu_ 26 (some 39) (bz 27 134217727) HT_.out ?_
  refine done_ (done_of HT_.out (by kernel_rfl)) ?_
  obtain ⟨HP3, HB3⟩ := hHeld
  have HP4 := Aside0.mk HP3
  have HB4 := Aside0.mk HB3
  clear HP3 HB3 HT_ HW_ hc28
  have hcc := HP4.out.cntd node.toNat (by omega)
  rw [HM] at hcc
  have hfz := HP4.out.frozen (16 + node.toNat)
  go_wp2_with (go_at_call 28; refine (HND.out _ _ ⟨HP4.out, rfl⟩).mono ?_; rintro e w' ⟨rfl, rfl⟩)
  go_ret
  exact ⟨rfl, HP4.out, Only.of_below HB4.out⟩
set_option maxHeartbeats 4000000 in
set_option maxRecDepth 100000 in
theorem taken_t3l (g : Nat) (p : PrS) (node : Int) (w : World) (HP : Aside0 (PrIs w g p)) (c1 : (p.st == 1) = true) (HN : bhas p.nodes node = true) (k0 : 0 ≤ node) (k7 : node < 7) (HM : p.cntd.getD node.toNat false = false) (HC : ¬ bcnt p.nodes < 2 * (bcnt p.cntd + 1)) :
    Calls Tryd.prog 15 #[.pointer (some ⟨g, 0, none⟩), .int .i64 node] w fun e w' => e = .returned (.bool true) ∧ PrIs w' g { p with cntd := p.cntd.set node.toNat true } ∧ Only w w' (· = g) := by
  have HND := Aside0.mk (fun W q (h : PrIs W g q ∧ q.nodes = p.nodes) => by have h2 := node_calls g q node W h.1; rw [h.2, HN] at h2; exact h2)
  have hc28 := HP.out.high.2.2.2.2.2.1
  obtain ⟨m, hm⟩ : ∃ m, bcnt p.cntd = m := ⟨_, rfl⟩
  obtain ⟨n, hn⟩ : ∃ n, bcnt p.nodes = n := ⟨_, rfl⟩
  have hm7 := bcnt_le7 _ HP.out.l3
  have hn7 := bcnt_le7 _ HP.out.l1
  rw [hm] at hm7
  rw [hn] at hn7
  have HMC := Aside0.mk (fun W h => many_cntd g p w W h m hm)
  have HMN := Aside0.mk (fun W h => many_nodes g p w W h n hn)
  rw [hm, hn] at HC
  clear hm hn
  have hdec : decide (wrap64 (2 * wrap64 ((m : Int) + 1)) > (n : Int)) = false := decide_eq_false (by unfold wrap64; omega)
  have hdec2 : decide ((n : Int) < wrap64 (2 * wrap64 ((m : Int) + 1))) = false := decide_eq_false (by unfold wrap64; omega)
  clear HC
  go_enter Tryd.func15, Tryd.ntmps15
  go_wp2
  refine start_ (n := 27) (S := fun W => PrIs W g p ∧ Below w.heap.size w W) (ds := []) (bz 27 0) (by kernel_rfl) rfl rfl ⟨HP.out.drew, below_drew (Below.refl _ _)⟩ (fun hHeld => ?_); refine with_tabW takenR.tab4 takenR.bits4 (fun HT_ HW_ => ?_)
  refine pu_ 0 (some 13) (bz 27 1) HT_.out ?_
  refine pu_ 1 (some 14) (bz 27 3) HT_.out ?_
  refine one_ (i := 2) (N := (some 15)) (bz 27 7) rfl rfl (one_of HT_.out (by kernel_rfl)) (by decide) (fun K hK => ?_)
  refine goes_ Tryd.func28 (by kernel_rfl) rfl #[.pointer (some ⟨g, 0, none⟩), .int .i64 node] (by rfl) rfl rfl am ?_
  refine (HND.out _ _ ⟨hHeld.1, rfl⟩).mono ?_
  rintro e w1 ⟨rfl, rfl⟩
  refine ⟨_, rfl, ?_⟩
  refine hK.out _ _ hHeld (fun hHeld => ?_)
  clear hK K
  refine norm_ (a' := ?_) ?_ ?_
  rotate_left
  · show Act.put _ (some 15) _ = _
    simp only [Act.put, sl1, sl2, sl3, i64_w, i32_w]
    rfl
  refine pu_ 3 (some 16) (bz 27 15) HT_.out ?_
  refine pu_ 4 (some 17) (bz 27 31) HT_.out ?_
  refine pu_ 5 (some 18) (bz 27 63) HT_.out ?_
  refine pu_ 6 (some 19) (bz 27 127) HT_.out ?_
  refine pu_ 11 (some 24) (bz 27 2175) HT_.out ?_
  refine pu_ 12 (some 25) (bz 27 6271) HT_.out ?_
  refine pu_ 13 (some 26) (bz 27 14463) HT_.out ?_
  refine take_ (i := 7) (N := (some 20)) (v := ?_) (a' := ?_) (bz 27 14591) rfl rfl (take_ofW HT_.out HW_.out (by kernel_rfl)) (fun _ _ _ h => h) (Or.inl ⟨by rfl, ?_⟩) hHeld ?_ ?_
  rotate_left
  · rintro w' ⟨s0, _⟩
    obtain ⟨z0, z1, z2, z3, z4, z5, z6⟩ := s0.rcntd
    go_simp
    with_reducible rfl
  rotate_left
  · simp only [Act.put, sl1, sl2, sl3, i64_w, i32_w]
    rfl
  refine take_ (i := 14) (N := (some 27)) (v := ?_) (a' := ?_) (bz 27 30975) rfl rfl (take_ofW HT_.out HW_.out (by kernel_rfl)) (fun _ _ _ h => h) (Or.inl ⟨by rfl, ?_⟩) hHeld ?_ ?_
  rotate_left
  · rintro w' ⟨s0, _⟩
    obtain ⟨z0, z1, z2, z3, z4, z5, z6⟩ := s0.rnodes
    go_simp
    with_reducible rfl
  rotate_left
  · simp only [Act.put, sl1, sl2, sl3, i64_w, i32_w]
    rfl
  refine one_ (i := 8) (N := (some 21)) (bz 27 31231) rfl rfl (one_of HT_.out (by kernel_rfl)) (by decide) (fun K hK => ?_)
  refine goes_ Tryd.func33 (by kernel_rfl) rfl #[.agg #[.bool (p.cntd.getD 0 false), .bool (p.cntd.getD 1 false), .bool (p.cntd.getD 2 false), .bool (p.cntd.getD 3 false), .bool (p.cntd.getD 4 false), .bool (p.cntd.getD 5 false), .bool (p.cntd.getD 6 false)]] (by rfl) rfl rfl am ?_
  refine (HMC.out _ hHeld).mono ?_
  rintro e w2 ⟨rfl, hb2⟩
  refine ⟨_, rfl, ?_⟩
  refine hK.out _ _ hb2 (fun hHeld => ?_)
  clear hK K
  refine norm_ (a' := ?_) ?_ ?_
  rotate_left
  · show Act.put _ (some 21) _ = _
    simp only [Act.put, sl1, sl2, sl3, i64_w, i32_w]
    rfl
  refine pu_ 9 (some 22) (bz 27 31743) HT_.out ?_
  refine pu_ 10 (some 23) (bz 27 32767) HT_.out ?_
  refine one_ (i := 15) (N := (some 28)) (bz 27 65535) rfl rfl (one_of HT_.out (by kernel_rfl)) (by decide) (fun K hK => ?_)
  refine goes_ Tryd.func33 (by kernel_rfl) rfl #[.agg #[.bool (p.nodes.getD 0 false), .bool (p.nodes.getD 1 false), .bool (p.nodes.getD 2 false), .bool (p.nodes.getD 3 false), .bool (p.nodes.getD 4 false), .bool (p.nodes.getD 5 false), .bool (p.nodes.getD 6 false)]] (by rfl) rfl rfl am ?_
  refine (HMN.out _ hHeld).mono ?_
  rintro e w3 ⟨rfl, hb3⟩
  refine ⟨_, rfl, ?_⟩
  refine hK.out _ _ hb3 (fun hHeld => ?_)
  clear hK K
  refine norm_ (a' := ?_) ?_ ?_
  rotate_left
  · show Act.put _ (some 28) _ = _
    simp only [Act.put, sl1, sl2, sl3, i64_w, i32_w]
    rfl
  refine pu_ 16 (some 29) (bz 27 131071) HT_.out ?_
  refine pu_ 17 (some 30) (bz 27 262143) HT_.out ?_
  refine pu_ 18 (some 31) (bz 27 524287) HT_.out ?_
  refine pu_ 19 (some 32) (bz 27 1048575) HT_.out ?_ (v := undef) (hy := Or.inr ⟨by rfl, rfl⟩)
  refine pu_ 20 (some 33) (bz 27 2097151) HT_.out ?_ (v := undef) (hy := Or.inr ⟨by rfl, rfl⟩)
  refine pu_ 21 (some 34) (bz 27 4194303) HT_.out ?_ (v := undef) (hy := Or.inr ⟨by rfl, rfl⟩)
  refine pu_ 22 (some 35) (bz 27 8388607) HT_.out ?_ (v := undef) (hy := Or.inr ⟨by rfl, rfl⟩)
  refine pu_ 23 (some 36) (bz 27 16777215) HT_.out ?_ (v := undef) (hy := Or.inr ⟨by rfl, rfl⟩)
  refine pu_ 24 (some 37) (bz 27 33554431) HT_.out ?_ (v := undef) (hy := Or.inr ⟨by rfl, rfl⟩)
  refine pu_ 25 (some 38) (bz 27 67108863) HT_.out ?_ (v := undef) (hy := Or.inr ⟨by rfl, rfl⟩)
  refine pu_ 26 (some 39) (bz 27 134217727) HT_.out ?_
  refine done_ (done_of HT_.out (by kernel_rfl)) ?_
  obtain ⟨HP3, HB3⟩ := hHeld
  have HP4 := Aside0.mk HP3
  have HB4 := Aside0.mk HB3
  clear HP3 HB3 HT_ HW_ hc28
  have hcc := HP4.out.cntd node.toNat (by omega)
  rw [HM] at hcc
  have hfz := HP4.out.frozen (16 + node.toNat)
  go_wp2_with (go_at_call 28; refine (HND.out _ _ ⟨HP4.out, rfl⟩).mono ?_; rintro e w' ⟨rfl, rfl⟩)
  go_ret
  exact ⟨rfl, HP4.out.set_cntd node.toNat (by omega) true, (Only.of_below HB4.out).set_ _ _⟩
set_option maxHeartbeats 4000000 in
set_option maxRecDepth 100000 in
theorem taken_t2b (g : Nat) (p : PrS) (node : Int) (w : World) (HP : Aside0 (PrIs w g p)) (c1 : (p.st == 1) = true) (HN : bhas p.nodes node = true) (k0 : 0 ≤ node) (k7 : node < 7) (HM : p.cntd.getD node.toNat false = true) (HC : bcnt p.nodes < 2 * (bcnt p.cntd + 1)) :
    Calls Tryd.prog 15 #[.pointer (some ⟨g, 0, none⟩), .int .i64 node] w fun e w' => e = .returned (.bool false) ∧ PrIs w' g p ∧ Only w w' (· = g) := by
  have HND := Aside0.mk (fun W q (h : PrIs W g q ∧ q.nodes = p.nodes) => by have h2 := node_calls g q node W h.1; rw [h.2, HN] at h2; exact h2)
  have hc28 := HP.out.high.2.2.2.2.2.1
  obtain ⟨m, hm⟩ : ∃ m, bcnt p.cntd = m := ⟨_, rfl⟩
  obtain ⟨n, hn⟩ : ∃ n, bcnt p.nodes = n := ⟨_, rfl⟩
  have hm7 := bcnt_le7 _ HP.out.l3
  have hn7 := bcnt_le7 _ HP.out.l1
  rw [hm] at hm7
  rw [hn] at hn7
  have HMC := Aside0.mk (fun W h => many_cntd g p w W h m hm)
  have HMN := Aside0.mk (fun W h => many_nodes g p w W h n hn)
  rw [hm, hn] at HC
  clear hm hn
  have hdec : decide (wrap64 (2 * wrap64 ((m : Int) + 1)) > (n : Int)) = true := decide_eq_true (by unfold wrap64; omega)
  have hdec2 : decide ((n : Int) < wrap64 (2 * wrap64 ((m : Int) + 1))) = true := decide_eq_true (by unfold wrap64; omega)
  clear HC
  go_enter Tryd.func15, Tryd.ntmps15
  go_wp2
  refine start_ (n := 27) (S := fun W => PrIs W g p ∧ Below w.heap.size w W) (ds := []) (bz 27 0) (by kernel_rfl) rfl rfl ⟨HP.out.drew, below_drew (Below.refl _ _)⟩ (fun hHeld => ?_); refine with_tabW takenR.tab4 takenR.bits4 (fun HT_ HW_ => ?_)
  refine pu_ 0 (some 13) (bz 27 1) HT_.out ?_
  refine pu_ 1 (some 14) (bz 27 3) HT_.out ?_
  refine one_ (i := 2) (N := (some 15)) (bz 27 7) rfl rfl (one_of HT_.out (by kernel_rfl)) (by decide) (fun K hK => ?_)
  refine goes_ Tryd.func28 (by kernel_rfl) rfl #[.pointer (some ⟨g, 0, none⟩), .int .i64 node] (by rfl) rfl rfl am ?_
  refine (HND.out _ _ ⟨hHeld.1, rfl⟩).mono ?_
  rintro e w1 ⟨rfl, rfl⟩
  refine ⟨_, rfl, ?_⟩
  refine hK.out _ _ hHeld (fun hHeld => ?_)
  clear hK K
  refine norm_ (a' := ?_) ?_ ?_
  rotate_left
  · show Act.put _ (some 15) _ = _
    simp only [Act.put, sl1, sl2, sl3, i64_w, i32_w]
    rfl
  refine pu_ 3 (some 16) (bz 27 15) HT_.out ?_
  refine pu_ 4 (some 17) (bz 27 31) HT_.out ?_
  refine pu_ 5 (some 18) (bz 27 63) HT_.out ?_
  refine pu_ 6 (some 19) (bz 27 127) HT_.out ?_
  refine pu_ 11 (some 24) (bz 27 2175) HT_.out ?_
  refine pu_ 12 (some 25) (bz 27 6271) HT_.out ?_
  refine pu_ 13 (some 26) (bz 27 14463) HT_.out ?_
  refine take_ (i := 7) (N := (some 20)) (v := ?_) (a' := ?_) (bz 27 14591) rfl rfl (take_ofW HT_.out HW_.out (by kernel_rfl)) (fun _ _ _ h => h) (Or.inl ⟨by rfl, ?_⟩) hHeld ?_ ?_
  rotate_left
  · rintro w' ⟨s0, _⟩
    obtain ⟨z0, z1, z2, z3, z4, z5, z6⟩ := s0.rcntd
    go_simp
    with_reducible rfl
  rotate_left
  · simp only [Act.put, sl1, sl2, sl3, i64_w, i32_w]
    rfl
  refine take_ (i := 14) (N := (some 27)) (v := ?_) (a' := ?_) (bz 27 30975) rfl rfl (take_ofW HT_.out HW_.out (by kernel_rfl)) (fun _ _ _ h => h) (Or.inl ⟨by rfl, ?_⟩) hHeld ?_ ?_
  rotate_left
  · rintro w' ⟨s0, _⟩
    obtain ⟨z0, z1, z2, z3, z4, z5, z6⟩ := s0.rnodes
    go_simp
    with_reducible rfl
  rotate_left
  · simp only [Act.put, sl1, sl2, sl3, i64_w, i32_w]
    rfl
  refine one_ (i := 8) (N := (some 21)) (bz 27 31231) rfl rfl (one_of HT_.out (by kernel_rfl)) (by decide) (fun K hK => ?_)
  refine goes_ Tryd.func33 (by kernel_rfl) rfl #[.agg #[.bool (p.cntd.getD 0 false), .bool (p.cntd.getD 1 false), .bool (p.cntd.getD 2 false), .bool (p.cntd.getD 3 false), .bool (p.cntd.getD 4 false), .bool (p.cntd.getD 5 false), .bool (p.cntd.getD 6 false)]] (by rfl) rfl rfl am ?_
  refine (HMC.out _ hHeld).mono ?_
  rintro e w2 ⟨rfl, hb2⟩
  refine ⟨_, rfl, ?_⟩
  refine hK.out _ _ hb2 (fun hHeld => ?_)
  clear hK K
  refine norm_ (a' := ?_) ?_ ?_
  rotate_left
  · show Act.put _ (some 21) _ = _
    simp only [Act.put, sl1, sl2, sl3, i64_w, i32_w]
    rfl
  refine pu_ 9 (some 22) (bz 27 31743) HT_.out ?_
  refine pu_ 10 (some 23) (bz 27 32767) HT_.out ?_
  refine one_ (i := 15) (N := (some 28)) (bz 27 65535) rfl rfl (one_of HT_.out (by kernel_rfl)) (by decide) (fun K hK => ?_)
  refine goes_ Tryd.func33 (by kernel_rfl) rfl #[.agg #[.bool (p.nodes.getD 0 false), .bool (p.nodes.getD 1 false), .bool (p.nodes.getD 2 false), .bool (p.nodes.getD 3 false), .bool (p.nodes.getD 4 false), .bool (p.nodes.getD 5 false), .bool (p.nodes.getD 6 false)]] (by rfl) rfl rfl am ?_
  refine (HMN.out _ hHeld).mono ?_
  rintro e w3 ⟨rfl, hb3⟩
  refine ⟨_, rfl, ?_⟩
  refine hK.out _ _ hb3 (fun hHeld => ?_)
  clear hK K
  refine norm_ (a' := ?_) ?_ ?_
  rotate_left
  · show Act.put _ (some 28) _ = _
    simp only [Act.put, sl1, sl2, sl3, i64_w, i32_w]
    rfl
  refine pu_ 16 (some 29) (bz 27 131071) HT_.out ?_
  refine pu_ 17 (some 30) (bz 27 262143) HT_.out ?_
  refine pu_ 18 (some 31) (bz 27 524287) HT_.out ?_
  refine pu_ 19 (some 32) (bz 27 1048575) HT_.out ?_
  refine pu_ 20 (some 33) (bz 27 2097151) HT_.out ?_
  refine pu_ 21 (some 34) (bz 27 4194303) HT_.out ?_
  refine pu_ 22 (some 35) (bz 27 8388607) HT_.out ?_
  refine pu_ 23 (some 36) (bz 27 16777215) HT_.out ?_
  refine take_ (i := 24) (N := (some 37)) (v := ?_) (a' := ?_) (bz 27 33554431) rfl rfl (take_ofW HT_.out HW_.out (by kernel_rfl)) (fun _ _ _ h => h) (Or.inl ⟨by rfl, ?_⟩) hHeld ?_ ?_
  rotate_left
  · rintro w' ⟨s0, _⟩
    have hz := s0.cntd node.toNat (by omega)
    rw [HM] at hz
    go_simp
    with_reducible rfl
  rotate_left
  · simp only [Act.put, sl1, sl2, sl3, i64_w, i32_w]
    rfl
  refine pu_ 25 (some 38) (bz 27 67108863) HT_.out ?_
  refine pu_ 26 (some 39) (bz 27 134217727) HT_.out ?_
  refine done_ (done_of HT_.out (by kernel_rfl)) ?_
  obtain ⟨HP3, HB3⟩ := hHeld
  have HP4 := Aside0.mk HP3
  have HB4 := Aside0.mk HB3
  clear HP3 HB3 HT_ HW_ hc28
  have hcc := HP4.out.cntd node.toNat (by omega)
  rw [HM] at hcc
  have hfz := HP4.out.frozen (16 + node.toNat)
  go_wp2_with (go_at_call 28; refine (HND.out _ _ ⟨HP4.out, rfl⟩).mono ?_; rintro e w' ⟨rfl, rfl⟩)
  go_ret
  exact ⟨rfl, HP4.out, Only.of_below HB4.out⟩
set_option maxHeartbeats 4000000 in
set_option maxRecDepth 100000 in
theorem taken_t3b (g : Nat) (p : PrS) (node : Int) (w : World) (HP : Aside0 (PrIs w g p)) (c1 : (p.st == 1) = true) (HN : bhas p.nodes node = true) (k0 : 0 ≤ node) (k7 : node < 7) (HM : p.cntd.getD node.toNat false = false) (HC : bcnt p.nodes < 2 * (bcnt p.cntd + 1)) :
    Calls Tryd.prog 15 #[.pointer (some ⟨g, 0, none⟩), .int .i64 node] w fun e w' => e = .returned (.bool true) ∧ PrIs w' g { p with cntd := p.cntd.set node.toNat true, st := 2 } ∧ Only w w' (· = g) := by
  have HND := Aside0.mk (fun W q (h : PrIs W g q ∧ q.nodes = p.nodes) => by have h2 := node_calls g q node W h.1; rw [h.2, HN] at h2; exact h2)
  have hc28 := HP.out.high.2.2.2.2.2.1
  obtain ⟨m, hm⟩ : ∃ m, bcnt p.cntd = m := ⟨_, rfl⟩
  obtain ⟨n, hn⟩ : ∃ n, bcnt p.nodes = n := ⟨_, rfl⟩
  have hm7 := bcnt_le7 _ HP.out.l3
  have hn7 := bcnt_le7 _ HP.out.l1
  rw [hm] at hm7
  rw [hn] at hn7
  have HMC := Aside0.mk (fun W h => many_cntd g p w W h m hm)
  have HMN := Aside0.mk (fun W h => many_nodes g p w W h n hn)
  rw [hm, hn] at HC
  clear hm hn
  have hdec : decide (wrap64 (2 * wrap64 ((m : Int) + 1)) > (n : Int)) = true := decide_eq_true (by unfold wrap64; omega)
  have hdec2 : decide ((n : Int) < wrap64 (2 * wrap64 ((m : Int) + 1))) = true := decide_eq_true (by unfold wrap64; omega)
  clear HC
  go_enter Tryd.func15, Tryd.ntmps15
  go_wp2
  refine start_ (n := 27) (S := fun W => PrIs W g p ∧ Below w.heap.size w W) (ds := []) (bz 27 0) (by kernel_rfl) rfl rfl ⟨HP.out.drew, below_drew (Below.refl _ _)⟩ (fun hHeld => ?_); refine with_tabW takenR.tab4 takenR.bits4 (fun HT_ HW_ => ?_)
  refine pu_ 0 (some 13) (bz 27 1) HT_.out ?_
  refine pu_ 1 (some 14) (bz 27 3) HT_.out ?_
  refine one_ (i := 2) (N := (some 15)) (bz 27 7) rfl rfl (one_of HT_.out (by kernel_rfl)) (by decide) (fun K hK => ?_)
  refine goes_ Tryd.func28 (by kernel_rfl) rfl #[.pointer (some ⟨g, 0, none⟩), .int .i64 node] (by rfl) rfl rfl am ?_
  refine (HND.out _ _ ⟨hHeld.1, rfl⟩).mono ?_
  rintro e w1 ⟨rfl, rfl⟩
  refine ⟨_, rfl, ?_⟩
  refine hK.out _ _ hHeld (fun hHeld => ?_)
  clear hK K
  refine norm_ (a' := ?_) ?_ ?_
  rotate_left
  · show Act.put _ (some 15) _ = _
    simp only [Act.put, sl1, sl2, sl3, i64_w, i32_w]
    rfl
  refine pu_ 3 (some 16) (bz 27 15) HT_.out ?_
  refine pu_ 4 (some 17) (bz 27 31) HT_.out ?_
  refine pu_ 5 (some 18) (bz 27 63) HT_.out ?_
  refine pu_ 6 (some 19) (bz 27 127) HT_.out ?_
  refine pu_ 11 (some 24) (bz 27 2175) HT_.out ?_
  refine pu_ 12 (some 25) (bz 27 6271) HT_.out ?_
  refine pu_ 13 (some 26) (bz 27 14463) HT_.out ?_
  refine take_ (i := 7) (N := (some 20)) (v := ?_) (a' := ?_) (bz 27 14591) rfl rfl (take_ofW HT_.out HW_.out (by kernel_rfl)) (fun _ _ _ h => h) (Or.inl ⟨by rfl, ?_⟩) hHeld ?_ ?_
  rotate_left
  · rintro w' ⟨s0, _⟩
    obtain ⟨z0, z1, z2, z3, z4, z5, z6⟩ := s0.rcntd
    go_simp
    with_reducible rfl
  rotate_left
  · simp only [Act.put, sl1, sl2, sl3, i64_w, i32_w]
    rfl
  refine take_ (i := 14) (N := (some 27)) (v := ?_) (a' := ?_) (bz 27 30975) rfl rfl (take_ofW HT_.out HW_.out (by kernel_rfl)) (fun _ _ _ h => h) (Or.inl ⟨by rfl, ?_⟩) hHeld ?_ ?_
  rotate_left
  · rintro w' ⟨s0, _⟩
    obtain ⟨z0, z1, z2, z3, z4, z5, z6⟩ := s0.rnodes
    go_simp
    with_reducible rfl
  rotate_left
  · simp only [Act.put, sl1, sl2, sl3, i64_w, i32_w]
    rfl
  refine one_ (i := 8) (N := (some 21)) (bz 27 31231) rfl rfl (one_of HT_.out (by kernel_rfl)) (by decide) (fun K hK => ?_)
  refine goes_ Tryd.func33 (by kernel_rfl) rfl #[.agg #[.bool (p.cntd.getD 0 false), .bool (p.cntd.getD 1 false), .bool (p.cntd.getD 2 false), .bool (p.cntd.getD 3 false), .bool (p.cntd.getD 4 false), .bool (p.cntd.getD 5 false), .bool (p.cntd.getD 6 false)]] (by rfl) rfl rfl am ?_
  refine (HMC.out _ hHeld).mono ?_
  rintro e w2 ⟨rfl, hb2⟩
  refine ⟨_, rfl, ?_⟩
  refine hK.out _ _ hb2 (fun hHeld => ?_)
  clear hK K
  refine norm_ (a' := ?_) ?_ ?_
  rotate_left
  · show Act.put _ (some 21) _ = _
    simp only [Act.put, sl1, sl2, sl3, i64_w, i32_w]
    rfl
  refine pu_ 9 (some 22) (bz 27 31743) HT_.out ?_
  refine pu_ 10 (some 23) (bz 27 32767) HT_.out ?_
  refine one_ (i := 15) (N := (some 28)) (bz 27 65535) rfl rfl (one_of HT_.out (by kernel_rfl)) (by decide) (fun K hK => ?_)
  refine goes_ Tryd.func33 (by kernel_rfl) rfl #[.agg #[.bool (p.nodes.getD 0 false), .bool (p.nodes.getD 1 false), .bool (p.nodes.getD 2 false), .bool (p.nodes.getD 3 false), .bool (p.nodes.getD 4 false), .bool (p.nodes.getD 5 false), .bool (p.nodes.getD 6 false)]] (by rfl) rfl rfl am ?_
  refine (HMN.out _ hHeld).mono ?_
  rintro e w3 ⟨rfl, hb3⟩
  refine ⟨_, rfl, ?_⟩
  refine hK.out _ _ hb3 (fun hHeld => ?_)
  clear hK K
  refine norm_ (a' := ?_) ?_ ?_
  rotate_left
  · show Act.put _ (some 28) _ = _
    simp only [Act.put, sl1, sl2, sl3, i64_w, i32_w]
    rfl
  refine pu_ 16 (some 29) (bz 27 131071) HT_.out ?_
  refine pu_ 17 (some 30) (bz 27 262143) HT_.out ?_
  refine pu_ 18 (some 31) (bz 27 524287) HT_.out ?_
  refine pu_ 19 (some 32) (bz 27 1048575) HT_.out ?_
  refine pu_ 20 (some 33) (bz 27 2097151) HT_.out ?_
  refine pu_ 21 (some 34) (bz 27 4194303) HT_.out ?_
  refine pu_ 22 (some 35) (bz 27 8388607) HT_.out ?_
  refine pu_ 23 (some 36) (bz 27 16777215) HT_.out ?_
  refine take_ (i := 24) (N := (some 37)) (v := ?_) (a' := ?_) (bz 27 33554431) rfl rfl (take_ofW HT_.out HW_.out (by kernel_rfl)) (fun _ _ _ h => h) (Or.inl ⟨by rfl, ?_⟩) hHeld ?_ ?_
  rotate_left
  · rintro w' ⟨s0, _⟩
    have hz := s0.cntd node.toNat (by omega)
    rw [HM] at hz
    go_simp
    with_reducible rfl
  rotate_left
  · simp only [Act.put, sl1, sl2, sl3, i64_w, i32_w]
    rfl
  refine pu_ 25 (some 38) (bz 27 67108863) HT_.out ?_
  refine pu_ 26 (some 39) (bz 27 134217727) HT_.out ?_
  refine done_ (done_of HT_.out (by kernel_rfl)) ?_
  obtain ⟨HP3, HB3⟩ := hHeld
  have HP4 := Aside0.mk HP3
  have HB4 := Aside0.mk HB3
  clear HP3 HB3 HT_ HW_ hc28
  have hfs := HP4.out.frozen 28
  have hc28 := HP4.out.high.2.2.2.2.2.1
  have HP5 := Aside0.mk (HP4.out.set_st 2)
  have HK5 := Aside0.mk ((Only.of_below (S := (· = g)) HB4.out).set_ 28 (.int .i64 2))
  go_wp2_with (go_at_call 28; refine (HND.out _ _ ⟨HP5.out, rfl⟩).mono ?_; rintro e w' ⟨rfl, rfl⟩; generalize World.setCell _ ⟨g, 28, none⟩ (.int .i64 2) = W5 at HP5 HK5 ⊢; have hcc := HP5.out.cntd node.toNat (by omega); dsimp only at hcc; rw [HM] at hcc; have hfz := HP5.out.frozen (16 + node.toNat))
  go_ret
  exact ⟨rfl, HP5.out.set_cntd node.toNat (by omega) true, HK5.out.set_ _ _⟩
/-- What Taken answers, and leaves. -/
theorem taken_calls (g : Nat) (p : PrS) (node : Int) (w : World) (h : PrIs w g p) :
    Calls Tryd.prog 15 #[.pointer (some ⟨g, 0, none⟩), .int .i64 node] w fun e w' => e = .returned (.bool (p.taken node).2) ∧ PrIs w' g (p.taken node).1 ∧ Only w w' (· = g) := by
  have HP := Aside0.mk h
  unfold PrS.taken
  have k : bhas p.nodes node = true → 0 ≤ node ∧ node < 7 := by
    intro c1
    unfold bhas at c1
    simp only [Bool.and_eq_true, decide_eq_true_eq] at c1
    exact c1.1
  by_cases c0 : p.st = 1 ∨ p.st = 2
  case neg =>
    rw [if_neg (fun hh => c0 hh.1)]
    exact taken_z g p node w HP (beq_eq_false_iff_ne.mpr (fun e => c0 (.inl e))) (beq_eq_false_iff_ne.mpr (fun e => c0 (.inr e)))
  by_cases c1 : bhas p.nodes node = true
  case neg =>
    rw [if_neg (fun hh => c1 hh.2.1)]
    have c1b : bhas p.nodes node = false := by simpa using c1
    rcases c0 with c0 | c0
    · exact taken_t1 g p node w HP (beq_iff_eq.mpr c0) c1b
    · exact taken_u1 g p node w HP (beq_eq_false_iff_ne.mpr (by omega)) (beq_iff_eq.mpr c0) c1b
  by_cases c2 : p.cntd.getD node.toNat false = false
  case neg =>
    rw [if_neg (fun hh => c2 hh.2.2)]
    have c2b : p.cntd.getD node.toNat false = true := by simpa using c2
    rcases c0 with c0 | c0
    · by_cases c3 : bcnt p.nodes < 2 * (bcnt p.cntd + 1)
      · exact taken_t2b g p node w HP (beq_iff_eq.mpr c0) c1 (k c1).1 (k c1).2 c2b c3
      · exact taken_t2l g p node w HP (beq_iff_eq.mpr c0) c1 (k c1).1 (k c1).2 c2b c3
    · exact taken_u2 g p node w HP (beq_eq_false_iff_ne.mpr (by omega)) (beq_iff_eq.mpr c0) c1 (k c1).1 (k c1).2 c2b
  rw [if_pos ⟨c0, c1, c2⟩]
  rcases c0 with c0 | c0
  · by_cases c3 : bcnt p.nodes < 2 * (bcnt p.cntd + 1)
    · rw [if_pos ⟨c0, c3⟩]
      exact taken_t3b g p node w HP (beq_iff_eq.mpr c0) c1 (k c1).1 (k c1).2 c2 c3
    · rw [if_neg (fun hh => c3 hh.2)]
      exact taken_t3l g p node w HP (beq_iff_eq.mpr c0) c1 (k c1).1 (k c1).2 c2 c3
  · rw [if_neg (fun hh => by have := hh.1; omega)]
    exact taken_u3 g p node w HP (beq_eq_false_iff_ne.mpr (by omega)) (beq_iff_eq.mpr c0) c1 (k c1).1 (k c1).2 c2

end Go.Proofs.YtnmcknfkmelnbaaDoor.P
