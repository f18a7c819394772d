import Derived.Test.YtnmcknfkmelnbaaDoorFrU
import Derived.Test.YtnmcknfkmelnbaaDoorWalkB
import Derived.Test.YtnmcknfkmelnbaaDoorWalkH
import Derived.Test.YtnmcknfkmelnbaaDoorWalkG
import Derived.Outline
import Derived.Laws.BitsAllLaws
import Derived.WalkSpells
import Derived.StillTailTactics
namespace Go.Proofs.YtnmcknfkmelnbaaDoor.P
open Go.RowKit Go.Proofs.YtnmcknfkmelnbaaDoorW.PrintWords Go.Proofs.YtnmcknfkmelnbaaDoorW.PrintLast Go.Proofs.YtnmcknfkmelnbaaDoorW.PrintMore
attribute [local go_sem] max2_int min2_int max_two min_two max_three min_three max_four min_four
set_option linter.unusedVariables false
set_option linter.unusedSimpArgs false
attribute [local go_sem high] eqA23
set_option maxHeartbeats 8000000 in
set_option maxRecDepth 100000 in
theorem step_none (w W : World) (B : PxB) (x : PxS) (kind P A : Int) (hk : inB kind = true) (hP : inB P = true) (hA : inB A = true) (HS : Aside0 (PxIs w W B x)) (H0 : pickN kind 3 ≠ 0) (H1 : x.who.getD (pickN P 3) none = none) :
    Calls Tryd.prog 23 #[.pointer (some ⟨B.gx, 0, none⟩), .agg #[.int .i64 kind, .int .i64 P, .int .i64 A]] W fun e W' => e = .returned (.bool true) ∧ ∃ B', B'.ke = B.ke ∧ PxIs w W' B' x := by
  obtain ⟨kd, hkd⟩ : ∃ kd, pickN kind 3 = kd := ⟨_, rfl⟩
  obtain ⟨i, hi⟩ : ∃ i, pickN P 3 = i := ⟨_, rfl⟩
  obtain ⟨k, hkk⟩ : ∃ k, pickN A x.n = k := ⟨_, rfl⟩
  have hi3 : i < 3 := by rw [← hi]; exact pickN_lt P 3 (by decide)
  have hkn : k < x.n := by rw [← hkk]; exact pickN_lt A x.n HS.out.n7.1
  have hk3 : kd < 3 := by rw [← hkd]; exact pickN_lt kind 3 (by decide)
  have hn7 := HS.out.n7
  have HP1 := Aside0.mk (fun W => pick_calls P 3 W hP (by decide) (by decide))
  have HP2 := Aside0.mk (fun W => pick_calls A x.n W hA hn7.1 (by omega))
  have HP3 := Aside0.mk (fun W => pick_calls kind 3 W hk (by decide) (by decide))
  simp only [hi] at HP1 H1
  simp only [hkk] at HP2 H1
  simp only [hkd] at HP3 H0
  clear hk hP hA hi hkk hkd
  have HSb := Aside0.mk (HS.out.alloc (.cells #[.int .i64 kind, .int .i64 P, .int .i64 A] 64))
  have hbx := heap_alloc_new W (.cells #[.int .i64 kind, .int .i64 P, .int .i64 A] 64)
  have hbox := HS.out.box rfl
  obtain ⟨b3, hb3⟩ : ∃ b3, W.heap.size = b3 := ⟨_, rfl⟩
  rw [hb3] at hbx hbox
  have HBX := Aside0.mk hbx
  have HBO := Aside0.mk hbox
  clear hbox hbx
  go_enter Tryd.func23, Tryd.ntmps23
  go_wp2
  try rw [hb3]
  clear hb3
  generalize W.alloc (.cells #[.int .i64 kind, .int .i64 P, .int .i64 A] 64) = W0 at HSb HBX ⊢
  obtain ⟨hs0, hs1, hs2, _, _, _⟩ := bx3 HBX.out
  obtain ⟨hx0, hx1, hx2, hx3, hx4, hx5, hx6, hfx0, hfx1, hfx2, hfx3, hfx4, hfx5, hfx6⟩ := bx7 HSb.out.X
  go_quiet (first | (go_at_call 10; exact Calls.quiet_of (HP1.out _)) | fail)
  have HS1 := Aside0.mk (HSb.out.drewN nq)
  have HB1 := Aside0.mk (blk_drewN HBX.out nq)
  generalize W0.drewN nq = W1 at HS1 HB1 ⊢
  clear hs0 hs1 hs2 hx0 hx1 hx2 hx3 hx4 hx5 hx6 hfx0 hfx1 hfx2 hfx3 hfx4 hfx5 hfx6 HSb HBX HP1
  obtain ⟨hs0, hs1, hs2, _, _, _⟩ := bx3 HB1.out
  obtain ⟨hx0, hx1, hx2, hx3, hx4, hx5, hx6, hfx0, hfx1, hfx2, hfx3, hfx4, hfx5, hfx6⟩ := bx7 HS1.out.X
  go_wp2
  go_quiet (first | (go_at_call 10; exact Calls.quiet_of (HP2.out _)) | fail)
  have HS2 := Aside0.mk (HS1.out.drewN nq)
  have HB2 := Aside0.mk (blk_drewN HB1.out nq)
  generalize W1.drewN nq = W2 at HS2 HB2 ⊢
  clear hs0 hs1 hs2 hx0 hx1 hx2 hx3 hx4 hx5 hx6 hfx0 hfx1 hfx2 hfx3 hfx4 hfx5 hfx6 HS1 HB1 HP2
  obtain ⟨hs0, hs1, hs2, _, _, _⟩ := bx3 HB2.out
  obtain ⟨hx0, hx1, hx2, hx3, hx4, hx5, hx6, hfx0, hfx1, hfx2, hfx3, hfx4, hfx5, hfx6⟩ := bx7 HS2.out.X
  have hpt := HS2.out.ptr_at i hi3
  have hgs : B.gs.getD i none = none := by
    cases hg : B.gs.getD i none with
    | none => rfl
    | some g =>
      obtain ⟨_, p, hp, _⟩ := HS2.out.who_at i g hg hi3
      rw [List.getD_eq_getElem?_getD, hp] at H1
      cases H1
  rw [hgs] at hpt
  have hpt2 : W2.cell? ⟨B.gw, i, none⟩ = some (.pointer none) := hpt
  clear hpt
  have hpt := hpt2
  clear hpt2
  go_wp2_with (go_at_call 10; refine (HP3.out _).mono ?_)
  rintro e W3 ⟨rfl, m3, rfl⟩
  have HS3 := Aside0.mk (HS2.out.drewN m3)
  have HB3 := Aside0.mk (blk_drewN HB2.out m3)
  generalize W2.drewN m3 = W3 at HS3 HB3 ⊢
  clear hs0 hs1 hs2 hx0 hx1 hx2 hx3 hx4 hx5 hx6 hfx0 hfx1 hfx2 hfx3 hfx4 hfx5 hfx6 HS2 HB2 HP3 hpt
  obtain ⟨hx0, hx1, hx2, hx3, hx4, hx5, hx6, hfx0, hfx1, hfx2, hfx3, hfx4, hfx5, hfx6⟩ := bx7 HS3.out.X
  have hk0 : ((kd : Int) == 0) = false := beq_eq_false_iff_ne.mpr (by omega)
  by_cases hk1 : kd = 1
  · have hk1b : ((kd : Int) == 1) = true := beq_iff_eq.mpr (by omega)
    go_wp2
    go_ret
    exact ⟨rfl, B, rfl, HS3.out⟩
  · have hk1b : ((kd : Int) == 1) = false := beq_eq_false_iff_ne.mpr (by omega)
    go_wp2
    go_ret
    exact ⟨rfl, B, rfl, HS3.out⟩
set_option maxHeartbeats 8000000 in
set_option maxRecDepth 100000 in
theorem step_begin (w W : World) (B : PxB) (x : PxS) (kind P A : Int) (hk : inB kind = true) (hP : inB P = true) (hA : inB A = true) (HS : Aside0 (PxIs w W B x)) (H0 : pickN kind 3 = 0) (ht : 0 ≤ x.top ∧ x.top < 9007199254740991) (H1 : True) :
    Calls Tryd.prog 23 #[.pointer (some ⟨B.gx, 0, none⟩), .agg #[.int .i64 kind, .int .i64 P, .int .i64 A]] W fun e W' => e = .returned (.bool true) ∧ ∃ B', B'.ke = B.ke ∧ PxIs w W' B' (x.begin (pickN P 3)) := by
  obtain ⟨kd, hkd⟩ : ∃ kd, pickN kind 3 = kd := ⟨_, rfl⟩
  obtain ⟨i, hi⟩ : ∃ i, pickN P 3 = i := ⟨_, rfl⟩
  obtain ⟨k, hkk⟩ : ∃ k, pickN A x.n = k := ⟨_, rfl⟩
  have hi3 : i < 3 := by rw [← hi]; exact pickN_lt P 3 (by decide)
  have hkn : k < x.n := by rw [← hkk]; exact pickN_lt A x.n HS.out.n7.1
  have hk3 : kd < 3 := by rw [← hkd]; exact pickN_lt kind 3 (by decide)
  have hn7 := HS.out.n7
  have HP1 := Aside0.mk (fun W => pick_calls P 3 W hP (by decide) (by decide))
  have HP2 := Aside0.mk (fun W => pick_calls A x.n W hA hn7.1 (by omega))
  have HP3 := Aside0.mk (fun W => pick_calls kind 3 W hk (by decide) (by decide))
  rw [hi]
  simp only [hi] at HP1
  simp only [hkk] at HP2
  simp only [hkd] at HP3 H0
  clear hk hP hA hi hkk hkd
  have HSb := Aside0.mk (HS.out.alloc (.cells #[.int .i64 kind, .int .i64 P, .int .i64 A] 64))
  have hbx := heap_alloc_new W (.cells #[.int .i64 kind, .int .i64 P, .int .i64 A] 64)
  have hbox := HS.out.box rfl
  obtain ⟨b3, hb3⟩ : ∃ b3, W.heap.size = b3 := ⟨_, rfl⟩
  rw [hb3] at hbx hbox
  have HBX := Aside0.mk hbx
  have HBO := Aside0.mk hbox
  clear hbox hbx
  go_enter Tryd.func23, Tryd.ntmps23
  go_wp2
  try rw [hb3]
  clear hb3
  generalize W.alloc (.cells #[.int .i64 kind, .int .i64 P, .int .i64 A] 64) = W0 at HSb HBX ⊢
  obtain ⟨hs0, hs1, hs2, _, _, _⟩ := bx3 HBX.out
  obtain ⟨hx0, hx1, hx2, hx3, hx4, hx5, hx6, hfx0, hfx1, hfx2, hfx3, hfx4, hfx5, hfx6⟩ := bx7 HSb.out.X
  go_quiet (first | (go_at_call 10; exact Calls.quiet_of (HP1.out _)) | fail)
  have HS1 := Aside0.mk (HSb.out.drewN nq)
  have HB1 := Aside0.mk (blk_drewN HBX.out nq)
  generalize W0.drewN nq = W1 at HS1 HB1 ⊢
  clear hs0 hs1 hs2 hx0 hx1 hx2 hx3 hx4 hx5 hx6 hfx0 hfx1 hfx2 hfx3 hfx4 hfx5 hfx6 HSb HBX HP1
  obtain ⟨hs0, hs1, hs2, _, _, _⟩ := bx3 HB1.out
  obtain ⟨hx0, hx1, hx2, hx3, hx4, hx5, hx6, hfx0, hfx1, hfx2, hfx3, hfx4, hfx5, hfx6⟩ := bx7 HS1.out.X
  go_wp2
  go_quiet (first | (go_at_call 10; exact Calls.quiet_of (HP2.out _)) | fail)
  have HS2 := Aside0.mk (HS1.out.drewN nq)
  have HB2 := Aside0.mk (blk_drewN HB1.out nq)
  generalize W1.drewN nq = W2 at HS2 HB2 ⊢
  clear hs0 hs1 hs2 hx0 hx1 hx2 hx3 hx4 hx5 hx6 hfx0 hfx1 hfx2 hfx3 hfx4 hfx5 hfx6 HS1 HB1 HP2
  obtain ⟨hs0, hs1, hs2, _, _, _⟩ := bx3 HB2.out
  obtain ⟨hx0, hx1, hx2, hx3, hx4, hx5, hx6, hfx0, hfx1, hfx2, hfx3, hfx4, hfx5, hfx6⟩ := bx7 HS2.out.X
  have hpt := HS2.out.ptr_at i hi3
  generalize ptrV (B.gs.getD i none) = pv at hpt
  go_wp2_with (go_at_call 10; refine (HP3.out _).mono ?_)
  rintro e W3 ⟨rfl, m3, rfl⟩
  have HS3 := Aside0.mk (HS2.out.drewN m3)
  have HB3 := Aside0.mk (blk_drewN HB2.out m3)
  generalize W2.drewN m3 = W3 at HS3 HB3 ⊢
  clear hs0 hs1 hs2 hx0 hx1 hx2 hx3 hx4 hx5 hx6 hfx0 hfx1 hfx2 hfx3 hfx4 hfx5 hfx6 HS2 HB2 HP3 hpt
  obtain ⟨hx0, hx1, hx2, hx3, hx4, hx5, hx6, hfx0, hfx1, hfx2, hfx3, hfx4, hfx5, hfx6⟩ := bx7 HS3.out.X
  have hk0 : ((kd : Int) == 0) = true := beq_iff_eq.mpr (by omega)
  have hwt : wrap64 (x.top + 1) = x.top + 1 := by unfold wrap64; omega
  go_wp2
  have HS4 := Aside0.mk (HS3.out.setTop (x.top + 1))
  try rw [hwt]
  generalize W3.setCell ⟨B.gx, 2, none⟩ (.int .i64 (x.top + 1)) = W4 at HS4 ⊢
  clear hx0 hx1 hx2 hx3 hx4 hx5 hx6 hfx0 hfx1 hfx2 hfx3 hfx4 hfx5 hfx6 HB3 hwt hk0 H0
  obtain ⟨hx0, hx1, hx2, hx3, hx4, hx5, hx6, hfx0, hfx1, hfx2, hfx3, hfx4, hfx5, hfx6⟩ := bx7 HS4.out.X
  have hib : i < x.bb.length := by rw [HS3.out.lb]; exact hi3
  have hbi := List.getElem?_eq_getElem hib
  obtain ⟨hbb0, hbb1⟩ := HS4.out.bb_at i _ hbi
  have hfb0 := blk_frozen HS4.out.Bb (i * 2)
  have hfb1 := blk_frozen HS4.out.Bb (i * 2 + 1)
  go_still_tail 11, (by kernel_rfl)
  change wpList _ _ _ _ _ W4.drew
  go_wp2
  have HS5 := Aside0.mk ((HS4.out.setBb i _ (x.top + 1, (i : Int)) hbi).drew)
  generalize ((W4.setCell ⟨B.gb, i * 2, none⟩ (.int .i64 (x.top + 1))).setCell ⟨B.gb, i * 2 + 1, none⟩ (.int .i64 (i : Int))).drew = W5 at HS5 ⊢
  clear hx0 hx1 hx2 hx3 hx4 hx5 hx6 hfx0 hfx1 hfx2 hfx3 hfx4 hfx5 hfx6 hbb0 hbb1 hfb0 hfb1 HS4
  go_loopg [8, 9] (x.n + 1) (fun kq v8 v9 Wr => ∃ (m : Nat), m ≤ x.n ∧ v9 = .int .i64 (m : Int) ∧ x.n - m < kq ∧ Aside0 (Kd.R (Kd.int .i64) 3 Wr W5.heap.size (fun _ => True) v8 (nodesN m)) ∧ Aside0 (Below W5.heap.size W5 Wr))
  case atStart => exact ⟨0, Nat.zero_le _, rfl, by omega, ⟨Kd.R_nil _ _ _ _ _⟩, ⟨Below.refl _ _⟩⟩
  case round =>
    obtain ⟨m, hm, rfl, hq, aa, HB⟩ := hrel
    have HSr := Aside0.mk (HS5.out.below HB.out)
    obtain ⟨hx0, hx1, hx2, hx3, hx4, hx5, hx6, hfx0, hfx1, hfx2, hfx3, hfx4, hfx5, hfx6⟩ := bx7 HSr.out.X
    by_cases hlt : m < x.n
    · have HL := Aside0.mk (nodesN_len m)
      have HSN := Aside0.mk (nodesN_succ m)
      go_wp2_with ((with_reducible refine gate_builtin (b := .append) (xs := #[.tmp 72, .tmp 74]) rfl ?_); at_builtin; refine Kd.R_append (Kd.int .i64) (w0 := W5) W5.heap.size rfl (.tmp 72) (.tmp 74) 24 3 (.int .i64 0) 8 rfl Tryd.underlying24 info3 rfl (by decide) (by omega) u8 (nodesN m) (m : Int) [.int .i64 (m : Int)] (fun _ => True) (fun _ => False) rfl rfl ?aP (fun _ hk => hk.elim) ?aF ?aO ?aB ?aS ?aL ?_; (case aP => exact rfl); (case aB => exact HB.out); (case aF => exact (fun _ _ => trivial)); (case aO => exact (by (with_reducible repeat (first | apply Kd.R_alloc | apply Kd.R_drewN | apply Kd.R_drew)); exact aa.out)); (case aS => exact HB.out.size); (case aL => have := HL.out; omega); intro v176 w6 ho hb hg hat; have n0_ := Aside0.mk hb; have n1_ := Aside0.mk ho; clear ho hb hg hat)
      go_roundg (x.n - m)
      case rel => exact ⟨m + 1, by omega, by go_num, by omega, ⟨by rw [HSN.out]; exact n1_.out⟩, n0_⟩
      case measure => omega
    · obtain rfl : m = x.n := by omega
      obtain ⟨A9, c9, e9, hc9, hC9⟩ := Kd.R_reads aa.out
      subst e9
      rw [nodesN_len] at hc9 hC9 ⊢
      have HC9 := Aside0.mk hC9
      clear hC9 aa hq hlt HB
      have hbb := HSr.out.bb_at i (x.top + 1, (i : Int)) (by show (x.bb.set i _)[i]? = _; rw [List.getElem?_set_self (by rw [HS3.out.lb]; exact hi3)])
      obtain ⟨hbb0, hbb1⟩ := hbb
      have hpt := HSr.out.ptr_at i hi3
      have HNW := Aside0.mk (fun W (h : Kd.C (Kd.int .i64) W A9 x.n (nodesN x.n)) => by have h2 := new_calls (x.top + 1) (i : Int) A9 c9 (nodesN x.n) W (by rw [nodesN_len]; exact h) (by rw [nodesN_len]; exact hc9); rw [new_nodes (x.top + 1) (i : Int) (by unfold RightP; omega) x.n hn7.1 hn7.2, nodesN_len] at h2; exact h2)
      go_wp2_with (go_at_call 8; refine (HNW.out _ HC9.out).mono ?_)
      intro e W8 hN
      obtain ⟨hb, g, hg, rfl, hp⟩ := hN
      have HS8 := Aside0.mk (HSr.out.below hb)
      have hgn : ∀ j : Nat, B.gs[j]? ≠ some (some g) := fun j hj => by
        obtain ⟨_, q, _, hq⟩ := HSr.out.P j g hj
        have := hq.lt
        omega
      have HGN := Aside0.mk hgn
      have HP8 := Aside0.mk hp
      have hgw : w.heap.size ≤ g := Nat.le_trans HSr.out.Bl.size hg
      clear hb hp hgn hbb0 hbb1 hx0 hx1 hx2 hx3 hx4 hx5 hx6 hfx0 hfx1 hfx2 hfx3 hfx4 hfx5 hfx6 hpt HNW HC9 HSr
      obtain ⟨hx0, hx1, hx2, hx3, hx4, hx5, hx6, hfx0, hfx1, hfx2, hfx3, hfx4, hfx5, hfx6⟩ := bx7 HS8.out.X
      have hpt := HS8.out.ptr_at i hi3
      have hfp := blk_frozen HS8.out.Wh i
      go_wp2
      go_ret
      exact ⟨rfl, { B with gs := B.gs.set i (some g) }, rfl, HS8.out.setWho i g _ hi3 HP8.out hgw HGN.out⟩

attribute [local go_sem high] eqA23
def askR.T19 : Bool × List (List Nat × List Nat) := (true, [([], []), ([0], [0]), ([1], [1]), ([2], [2]), ([], []), ([3, 4], [3, 4]), ([5], [5]), ([], []), ([7], [7]), ([8], [8]), ([9], [9]), ([], []), ([10, 11], [10, 11]), ([12], [12]), ([6, 13], [6, 13]), ([14], [14]), ([15], [15]), ([15], [15]), ([], []), ([18, 16, 14, 0, 1, 2, 3, 4, 5, 6, 7, 8, 9, 10, 11, 12, 13, 14, 15, 16, 18], [16, 18]), ([17, 19, 0, 1, 2, 3, 4, 5, 6, 7, 8, 9, 10, 11, 12, 13, 14, 15, 16, 17, 18, 19], [17])])
def askR.B19 : List Nat := [0, 1, 3, 7, 0, 31, 63, 0, 128, 384, 896, 0, 3968, 8064, 16383, 32767, 65535, 65535, 0, 393215, 1048575]
theorem askR.tab19 : rtab .any (opsOf Tryd.f23 19) = askR.T19 := by kernel_rfl
theorem askR.bits19 : waitsOk askR.T19.2 askR.B19 = true := by kernel_rfl
set_option maxHeartbeats 8000000 in
set_option maxRecDepth 100000 in
theorem step_ask0 (w W : World) (B : PxB) (x : PxS) (kind P A : Int) (hk : inB kind = true) (hP : inB P = true) (hA : inB A = true) (HS : Aside0 (PxIs w W B x)) (p : PrS) (a a2 : AcS) (b : Int × Int) (H0 : pickN kind 3 = 1) (H1 : x.who.getD (pickN P 3) none = some p) (Ha0 : x.acc[pickN A x.n]? = some a) (Hb0 : x.bb[pickN P 3]? = some b) (HPR : Aside0 (acceptor_Prepare.f a.a a.b a.c a.d a.s b.1 b.2 = some (a2.a, a2.b, a2.c, a2.d, a2.s, false))) :
    Calls Tryd.prog 23 #[.pointer (some ⟨B.gx, 0, none⟩), .agg #[.int .i64 kind, .int .i64 P, .int .i64 A]] W fun e W' => e = .returned (.bool true) ∧ ∃ B', B'.ke = B.ke ∧ PxIs w W' B' x := by
  obtain ⟨kd, hkd⟩ : ∃ kd, pickN kind 3 = kd := ⟨_, rfl⟩
  obtain ⟨i, hi⟩ : ∃ i, pickN P 3 = i := ⟨_, rfl⟩
  obtain ⟨k, hkk⟩ : ∃ k, pickN A x.n = k := ⟨_, rfl⟩
  have hi3 : i < 3 := by rw [← hi]; exact pickN_lt P 3 (by decide)
  have hkn : k < x.n := by rw [← hkk]; exact pickN_lt A x.n HS.out.n7.1
  have hk3 : kd < 3 := by rw [← hkd]; exact pickN_lt kind 3 (by decide)
  have hn7 := HS.out.n7
  have HP1 := Aside0.mk (fun W => pick_calls P 3 W hP (by decide) (by decide))
  have HP2 := Aside0.mk (fun W => pick_calls A x.n W hA hn7.1 (by omega))
  have HP3 := Aside0.mk (fun W => pick_calls kind 3 W hk (by decide) (by decide))
  rw [hi] at H1 Hb0
  simp only [hi] at HP1
  rw [hkk] at Ha0
  simp only [hkk] at HP2
  simp only [hkd] at HP3 H0
  clear hk hP hA hi hkk hkd
  have Ha := Aside0.mk Ha0
  have Hb := Aside0.mk Hb0
  clear Ha0 Hb0
  have HSb := Aside0.mk (HS.out.alloc (.cells #[.int .i64 kind, .int .i64 P, .int .i64 A] 64))
  have hbx := heap_alloc_new W (.cells #[.int .i64 kind, .int .i64 P, .int .i64 A] 64)
  have hbox := HS.out.box rfl
  obtain ⟨b3, hb3⟩ : ∃ b3, W.heap.size = b3 := ⟨_, rfl⟩
  rw [hb3] at hbx hbox
  have HBX := Aside0.mk hbx
  have HBO := Aside0.mk hbox
  clear hbox hbx
  go_enter Tryd.func23, Tryd.ntmps23
  go_wp2
  try rw [hb3]
  clear hb3
  generalize W.alloc (.cells #[.int .i64 kind, .int .i64 P, .int .i64 A] 64) = W0 at HSb HBX ⊢
  obtain ⟨hs0, hs1, hs2, _, _, _⟩ := bx3 HBX.out
  obtain ⟨hx0, hx1, hx2, hx3, hx4, hx5, hx6, hfx0, hfx1, hfx2, hfx3, hfx4, hfx5, hfx6⟩ := bx7 HSb.out.X
  go_quiet (first | (go_at_call 10; exact Calls.quiet_of (HP1.out _)) | fail)
  have HS1 := Aside0.mk (HSb.out.drewN nq)
  have HB1 := Aside0.mk (blk_drewN HBX.out nq)
  generalize W0.drewN nq = W1 at HS1 HB1 ⊢
  clear hs0 hs1 hs2 hx0 hx1 hx2 hx3 hx4 hx5 hx6 hfx0 hfx1 hfx2 hfx3 hfx4 hfx5 hfx6 HSb HBX HP1
  obtain ⟨hs0, hs1, hs2, _, _, _⟩ := bx3 HB1.out
  obtain ⟨hx0, hx1, hx2, hx3, hx4, hx5, hx6, hfx0, hfx1, hfx2, hfx3, hfx4, hfx5, hfx6⟩ := bx7 HS1.out.X
  go_wp2
  go_quiet (first | (go_at_call 10; exact Calls.quiet_of (HP2.out _)) | fail)
  have HS2 := Aside0.mk (HS1.out.drewN nq)
  have HB2 := Aside0.mk (blk_drewN HB1.out nq)
  generalize W1.drewN nq = W2 at HS2 HB2 ⊢
  clear hs0 hs1 hs2 hx0 hx1 hx2 hx3 hx4 hx5 hx6 hfx0 hfx1 hfx2 hfx3 hfx4 hfx5 hfx6 HS1 HB1 HP2
  obtain ⟨hs0, hs1, hs2, _, _, _⟩ := bx3 HB2.out
  obtain ⟨hx0, hx1, hx2, hx3, hx4, hx5, hx6, hfx0, hfx1, hfx2, hfx3, hfx4, hfx5, hfx6⟩ := bx7 HS2.out.X
  have hpt := HS2.out.ptr_at i hi3
  have hgs : ∃ g, B.gs.getD i none = some g := by
    cases hg : B.gs.getD i none with
    | none =>
      have := HS2.out.Pn i (by rw [HS2.out.gs_at i hi3, hg])
      rw [List.getD_eq_getElem?_getD, this] at H1
      cases H1
    | some g => exact ⟨g, rfl⟩
  obtain ⟨g, hgs⟩ := hgs
  have hpt2 : W2.cell? ⟨B.gw, i, none⟩ = some (.pointer (some ⟨g, 0, none⟩)) := by rw [hgs] at hpt; exact hpt
  clear hpt
  have hpt := hpt2
  clear hpt2
  go_wp2_with (go_at_call 10; refine (HP3.out _).mono ?_)
  rintro e W3 ⟨rfl, m3, rfl⟩
  have HS3 := Aside0.mk (HS2.out.drewN m3)
  have HB3 := Aside0.mk (blk_drewN HB2.out m3)
  generalize W2.drewN m3 = W3 at HS3 HB3 ⊢
  clear hs0 hs1 hs2 hx0 hx1 hx2 hx3 hx4 hx5 hx6 hfx0 hfx1 hfx2 hfx3 hfx4 hfx5 hfx6 HS2 HB2 HP3 hpt
  obtain ⟨hx0, hx1, hx2, hx3, hx4, hx5, hx6, hfx0, hfx1, hfx2, hfx3, hfx4, hfx5, hfx6⟩ := bx7 HS3.out.X
  have hk0 : ((kd : Int) == 0) = false := beq_eq_false_iff_ne.mpr (by omega)
  have hk1 : ((kd : Int) == 1) = true := beq_iff_eq.mpr (by omega)
  go_wp2
  have hi3z : (i : Int) < 3 := by omega
  refine start_ (n := 21) (S := fun W => PxIs w W B x) (ds := [19]) (bz 21 0) (by kernel_rfl) rfl rfl HS3.out.drew (fun hHeld => ?_); refine with_tabW askR.tab19 askR.bits19 (fun HT_ HW_ => ?_)
  refine pu_ 0 (some 106) (bz 21 1) HT_.out ?_
  refine pu_ 1 (some 107) (bz 21 3) HT_.out ?_
  refine pu_ 2 (some 108) (bz 21 7) HT_.out ?_
  refine pu_ 4 (some 110) (bz 21 23) HT_.out ?_
  refine pu_ 7 (some 113) (bz 21 151) HT_.out ?_
  refine pu_ 8 (some 114) (bz 21 407) HT_.out ?_
  refine pu_ 9 (some 115) (bz 21 919) HT_.out ?_
  refine pu_ 11 (some 117) (bz 21 2967) HT_.out ?_
  refine take_ (i := 3) (N := (some 109)) (v := ?_) (a' := ?_) (bz 21 2975) rfl rfl (take_ofW HT_.out HW_.out (by kernel_rfl)) (fun _ _ _ h => h) (Or.inl ⟨by rfl, ?_⟩) hHeld ?_ ?_
  rotate_left
  · rintro w' s0
    obtain ⟨z0, z1, z2, z3, z4, z5, z6, _, _, _, _, _, _, _⟩ := bx7 s0.X
    go_simp
    with_reducible rfl
  rotate_left
  · simp only [Act.put, sl1, sl2, sl3, i64_w, i32_w]
    rfl
  refine pu_ 5 (some 111) (bz 21 3007) HT_.out ?_
  refine take_ (i := 6) (N := (some 112)) (v := ?_) (a' := ?_) (bz 21 3071) rfl rfl (take_ofW HT_.out HW_.out (by kernel_rfl)) (fun _ _ _ h => h) (Or.inl ⟨by rfl, ?_⟩) hHeld ?_ ?_
  rotate_left
  · rintro w' s0
    obtain ⟨z0, z1, z2, z3, z4⟩ := s0.acc_at k a Ha.out
    go_simp
    with_reducible rfl
  rotate_left
  · simp only [Act.put, sl1, sl2, sl3, i64_w, i32_w]
    rfl
  refine take_ (i := 10) (N := (some 116)) (v := ?_) (a' := ?_) (bz 21 4095) rfl rfl (take_ofW HT_.out HW_.out (by kernel_rfl)) (fun _ _ _ h => h) (Or.inl ⟨by rfl, ?_⟩) hHeld ?_ ?_
  rotate_left
  · rintro w' s0
    obtain ⟨z0, z1, z2, z3, z4, z5, z6, _, _, _, _, _, _, _⟩ := bx7 s0.X
    go_simp
    with_reducible rfl
  rotate_left
  · simp only [Act.put, sl1, sl2, sl3, i64_w, i32_w]
    rfl
  refine pu_ 12 (some 118) (bz 21 8191) HT_.out ?_
  refine take_ (i := 13) (N := (some 119)) (v := ?_) (a' := ?_) (bz 21 16383) rfl rfl (take_ofW HT_.out HW_.out (by kernel_rfl)) (fun _ _ _ h => h) (Or.inl ⟨by rfl, ?_⟩) hHeld ?_ ?_
  rotate_left
  · rintro w' s0
    obtain ⟨z0, z1⟩ := s0.bb_at i b Hb.out
    go_simp
    with_reducible rfl
  rotate_left
  · simp only [Act.put, sl1, sl2, sl3, i64_w, i32_w]
    rfl
  refine join_ (σ := Nat) 2 (bz 21 524287) (fun s => [(120, .tuple #[.agg #[.int .i64 a2.a, .int .i64 a2.b, .int .i64 a2.c, .int .i64 a2.d, .string a2.s], .bool false]), (105, .tuple #[.agg #[.int .i64 a2.a, .int .i64 a2.b, .int .i64 a2.c, .int .i64 a2.d, .string a2.s], .bool false]), (121, .agg #[.int .i64 a2.a, .int .i64 a2.b, .int .i64 a2.c, .int .i64 a2.d, .string a2.s]), (122, .bool false), (12, .pointer (some ⟨s, 0, none⟩))]) (fun s W => PxIs w W B x ∧ W.heap[s]? = some (.cells #[.int .i64 0, .int .i64 0, .int .i64 0, .int .i64 0, .string ⟨#[]⟩] 34 (0, 0)) ∧ W3.heap.size ≤ s) ?_ ?_
  rotate_left
  · intro hJ
    refine two_ (i := 14) (j := 18) (Ni := (some 120)) (Nj := (some 12)) (bz 21 32767) (bz 21 278527) rfl rfl rfl rfl (by kernel_rfl) (by decide) (by decide) (fun K hK => ?_) (fun K hK => ?_)
    · skip
      refine goes_ Tryd.func35 (by kernel_rfl) rfl #[.agg #[.int .i64 a.a, .int .i64 a.b, .int .i64 a.c, .int .i64 a.d, .string a.s], .agg #[.int .i64 b.1, .int .i64 b.2]] (by rfl) rfl rfl am ?_
      refine (acceptor_Prepare.calls a.a a.b a.c a.d a.s b.1 b.2 a2.a a2.b a2.c a2.d a2.s false _ HPR.out).mono ?_
      rintro e w1 ⟨rfl, hb⟩
      refine ⟨_, rfl, ?_⟩
      have hH2 := hHeld.below hb
      refine hK.out _ _ hH2 (fun hHeld => ?_)
      clear hK K
      refine norm_ (a' := ?_) ?_ ?_
      rotate_left
      · show Act.put _ (some 120) _ = _
        simp only [Act.put, sl1, sl2, sl3, i64_w, i32_w]
        rfl
      refine pu_ 15 (some 105) (bz 21 65535) HT_.out ?_
      refine pu_ 16 (some 121) (bz 21 131071) HT_.out ?_
      refine pu_ 17 (some 122) (bz 21 262143) HT_.out ?_
      refine one_ (i := 18) (N := (some 12)) (bz 21 524287) rfl rfl (one_of HT_.out (by kernel_rfl)) (by decide) (fun K hK => ?_)
      refine value_ (w1 := ?_) (v := ?_) (by rfl) rfl ?_ ?_
      rotate_left 2
      · go_simp
        constructor
        · rfl
        · rfl
      have hAL := heap_alloc_new
      refine hK.out _ _ (hHeld.alloc _) (fun hHeld => ?_)
      clear hK K
      refine norm_ (a' := ?_) ?_ ?_
      rotate_left
      · show Act.put _ (some 12) _ = _
        simp only [Act.put, sl1, sl2, sl3, i64_w, i32_w]
        rfl
      exact norm_ (by first | (simp only [putAll, Act.put, sl1, sl2, sl3, i64_w, i32_w]; done) | (simp only [putAll, Act.put, sl1, sl2, sl3, i64_w, i32_w]; rfl)) (hJ _ _ ⟨hHeld, heap_alloc_new _ _, hb.size⟩)
    · skip
      refine value_ (w1 := ?_) (v := ?_) (by rfl) rfl ?_ ?_
      rotate_left 2
      · go_simp
        constructor
        · rfl
        · rfl
      have hAL := heap_alloc_new
      refine hK.out _ _ (hHeld.alloc _) (fun hHeld => ?_)
      clear hK K
      refine norm_ (a' := ?_) ?_ ?_
      rotate_left
      · show Act.put _ (some 12) _ = _
        simp only [Act.put, sl1, sl2, sl3, i64_w, i32_w]
        rfl
      refine one_ (i := 14) (N := (some 120)) (bz 21 294911) rfl rfl (one_of HT_.out (by kernel_rfl)) (by decide) (fun K hK => ?_)
      refine goes_ Tryd.func35 (by kernel_rfl) rfl #[.agg #[.int .i64 a.a, .int .i64 a.b, .int .i64 a.c, .int .i64 a.d, .string a.s], .agg #[.int .i64 b.1, .int .i64 b.2]] (by rfl) rfl rfl am ?_
      refine (acceptor_Prepare.calls a.a a.b a.c a.d a.s b.1 b.2 a2.a a2.b a2.c a2.d a2.s false _ HPR.out).mono ?_
      rintro e w1 ⟨rfl, hb⟩
      refine ⟨_, rfl, ?_⟩
      have hH2 := hHeld.below hb
      refine hK.out _ _ hH2 (fun hHeld => ?_)
      clear hK K
      refine norm_ (a' := ?_) ?_ ?_
      rotate_left
      · show Act.put _ (some 120) _ = _
        simp only [Act.put, sl1, sl2, sl3, i64_w, i32_w]
        rfl
      refine pu_ 15 (some 105) (bz 21 327679) HT_.out ?_
      refine pu_ 16 (some 121) (bz 21 393215) HT_.out ?_
      refine pu_ 17 (some 122) (bz 21 524287) HT_.out ?_
      exact norm_ (by first | (simp only [putAll, Act.put, sl1, sl2, sl3, i64_w, i32_w]; done) | (simp only [putAll, Act.put, sl1, sl2, sl3, i64_w, i32_w]; rfl)) (hJ _ _ ⟨hHeld, blk_below (blk_drew (heap_alloc_new _ _)) hb, Nat.le_refl _⟩)
  intro s W4 hF
  obtain ⟨hS4, hbx4, hs4⟩ := hF
  have HS4 := Aside0.mk hS4
  have HBX4 := Aside0.mk hbx4
  have hbm := HS3.out
  have hs1 : s ≠ B.gx := Nat.ne_of_gt (Nat.lt_of_lt_of_le (blk_lt hbm.X) hs4)
  have hs2 : s ≠ B.ga := Nat.ne_of_gt (Nat.lt_of_lt_of_le (blk_lt hbm.A) hs4)
  have hs3 : s ≠ B.gw := Nat.ne_of_gt (Nat.lt_of_lt_of_le (blk_lt hbm.Wh) hs4)
  have hs5 : s ≠ B.gb := Nat.ne_of_gt (Nat.lt_of_lt_of_le (blk_lt hbm.Bb) hs4)
  have hs6 : s ≠ B.go := Nat.ne_of_gt (Nat.lt_of_lt_of_le (blk_lt hbm.O) hs4)
  have hs9 : s ≠ B.gf := Nat.ne_of_gt (Nat.lt_of_lt_of_le (blk_lt hbm.F) hs4)
  have hs7 : ∀ k, B.vs.ownBlock = some k → ¬ (k = s) := fun k hk e => by have := Kd.R_lt hbm.S k hk; omega
  have hs8 : ∀ (i g : Nat), B.gs[i]? = some (some g) → ¬ (g = s) := fun i g hg e => by
    obtain ⟨_, q, _, hq⟩ := hbm.P i g hg
    have := hq.lt
    omega
  have hsw : w.heap.size ≤ s := Nat.le_trans hbm.Bl.size hs4
  have HAW : Aside0 (∀ W W' : World, PxIs w W B x → Only W W' (· = s) → PxIs w W' B x) := ⟨fun W W' h ho => h.away ho (fun i hi => by rw [hi]; exact hsw) (Ne.symm hs1) (Ne.symm hs2) (Ne.symm hs3) (Ne.symm hs5) (Ne.symm hs6) hs7 (fun i g hg => hs8 i g hg) (Ne.symm hs9)⟩
  clear hS4 hbx4 hbm hs3 hs5 hs6 hs7 hs8 hs9 hs4 HS3
  obtain ⟨hv0, hv1, hv2, hv3, hv4, hfv0, hfv1, hfv2, hfv3, hfv4⟩ := bx5 HBX4.out
  refine norm_ (a' := ?_) ?_ ?_
  rotate_left
  · simp only [putAll, Act.put, sl1, sl2, sl3, i64_w, i32_w]
    rfl
  refine last_ (i := 19) (N := none) (bz 21 1048575) rfl rfl (one_of HT_.out (by kernel_rfl)) (by decide) (fun K hK => ?_)
  refine skip_ (w1 := ?_) (by rfl) rfl ?_ ?_
  rotate_left
  · go_simp
    rfl
  refine hK.out _ _ ?_
  clear hK K
  refine pu_ 20 (some 13) (bz 21 2097151) HT_.out ?_
  refine done_ (done_of HT_.out (by kernel_rfl)) ?_
  clear HT_ HW_ hHeld
  have HS5 := Aside0.mk (HAW.out _ _ HS4.out ((((((Only.refl W4 (· = s)).set_ 0 (.int .i64 a2.a)).set_ 1 (.int .i64 a2.b)).set_ 2 (.int .i64 a2.c)).set_ 3 (.int .i64 a2.d)).set_ 4 (.string a2.s)))
  have HBX5 : Aside0 ((((((W4.setCell ⟨s, 0, none⟩ (.int .i64 a2.a)).setCell ⟨s, 1, none⟩ (.int .i64 a2.b)).setCell ⟨s, 2, none⟩ (.int .i64 a2.c)).setCell ⟨s, 3, none⟩ (.int .i64 a2.d)).setCell ⟨s, 4, none⟩ (.string a2.s)).heap[s]? = some (.cells #[.int .i64 a2.a, .int .i64 a2.b, .int .i64 a2.c, .int .i64 a2.d, .string a2.s] 34 (0, 0))) := ⟨by rw [blk_set (blk_set (blk_set (blk_set (blk_set HBX4.out _ _) _ _) _ _) _ _) _ _]; rfl⟩
  generalize ((((W4.setCell ⟨s, 0, none⟩ (.int .i64 a2.a)).setCell ⟨s, 1, none⟩ (.int .i64 a2.b)).setCell ⟨s, 2, none⟩ (.int .i64 a2.c)).setCell ⟨s, 3, none⟩ (.int .i64 a2.d)).setCell ⟨s, 4, none⟩ (.string a2.s) = W5 at HS5 HBX5 ⊢
  clear hv0 hv1 hv2 hv3 hv4 hfv0 hfv1 hfv2 hfv3 hfv4 hx0 hx1 hx2 hx3 hx4 hx5 hx6 hfx0 hfx1 hfx2 hfx3 hfx4 hfx5 hfx6 HS4 HBX4 HB3
  go_wp2
  go_ret
  exact ⟨rfl, B, rfl, HS5.out⟩

attribute [local go_sem high] eqA23
set_option maxHeartbeats 8000000 in
set_option maxRecDepth 100000 in
theorem step_ask1 (w W : World) (B : PxB) (x : PxS) (kind P A : Int) (hk : inB kind = true) (hP : inB P = true) (hA : inB A = true) (HS : Aside0 (PxIs w W B x)) (p : PrS) (a a2 : AcS) (b : Int × Int) (H0 : pickN kind 3 = 1) (H1 : x.who.getD (pickN P 3) none = some p) (Ha0 : x.acc[pickN A x.n]? = some a) (Hb0 : x.bb[pickN P 3]? = some b) (HPR : Aside0 (acceptor_Prepare.f a.a a.b a.c a.d a.s b.1 b.2 = some (a2.a, a2.b, a2.c, a2.d, a2.s, true))) :
    Calls Tryd.prog 23 #[.pointer (some ⟨B.gx, 0, none⟩), .agg #[.int .i64 kind, .int .i64 P, .int .i64 A]] W fun e W' => e = .returned (.bool true) ∧ ∃ B', B'.ke = B.ke ∧ PxIs w W' B' { x with acc := x.acc.set (pickN A x.n) a2, who := x.who.set (pickN P 3) (some (p.promise (pickN A x.n : Int) a2).1) } := by
  obtain ⟨kd, hkd⟩ : ∃ kd, pickN kind 3 = kd := ⟨_, rfl⟩
  obtain ⟨i, hi⟩ : ∃ i, pickN P 3 = i := ⟨_, rfl⟩
  obtain ⟨k, hkk⟩ : ∃ k, pickN A x.n = k := ⟨_, rfl⟩
  have hi3 : i < 3 := by rw [← hi]; exact pickN_lt P 3 (by decide)
  have hkn : k < x.n := by rw [← hkk]; exact pickN_lt A x.n HS.out.n7.1
  have hk3 : kd < 3 := by rw [← hkd]; exact pickN_lt kind 3 (by decide)
  have hn7 := HS.out.n7
  have HP1 := Aside0.mk (fun W => pick_calls P 3 W hP (by decide) (by decide))
  have HP2 := Aside0.mk (fun W => pick_calls A x.n W hA hn7.1 (by omega))
  have HP3 := Aside0.mk (fun W => pick_calls kind 3 W hk (by decide) (by decide))
  rw [hi] at H1 Hb0 ⊢
  simp only [hi] at HP1
  rw [hkk] at Ha0 ⊢
  simp only [hkk] at HP2
  simp only [hkd] at HP3 H0
  clear hk hP hA hi hkk hkd
  have Ha := Aside0.mk Ha0
  have Hb := Aside0.mk Hb0
  clear Ha0 Hb0
  have HSb := Aside0.mk (HS.out.alloc (.cells #[.int .i64 kind, .int .i64 P, .int .i64 A] 64))
  have hbx := heap_alloc_new W (.cells #[.int .i64 kind, .int .i64 P, .int .i64 A] 64)
  have hbox := HS.out.box rfl
  obtain ⟨b3, hb3⟩ : ∃ b3, W.heap.size = b3 := ⟨_, rfl⟩
  rw [hb3] at hbx hbox
  have HBX := Aside0.mk hbx
  have HBO := Aside0.mk hbox
  clear hbox hbx
  go_enter Tryd.func23, Tryd.ntmps23
  go_wp2
  try rw [hb3]
  clear hb3
  generalize W.alloc (.cells #[.int .i64 kind, .int .i64 P, .int .i64 A] 64) = W0 at HSb HBX ⊢
  obtain ⟨hs0, hs1, hs2, _, _, _⟩ := bx3 HBX.out
  obtain ⟨hx0, hx1, hx2, hx3, hx4, hx5, hx6, hfx0, hfx1, hfx2, hfx3, hfx4, hfx5, hfx6⟩ := bx7 HSb.out.X
  go_quiet (first | (go_at_call 10; exact Calls.quiet_of (HP1.out _)) | fail)
  have HS1 := Aside0.mk (HSb.out.drewN nq)
  have HB1 := Aside0.mk (blk_drewN HBX.out nq)
  generalize W0.drewN nq = W1 at HS1 HB1 ⊢
  clear hs0 hs1 hs2 hx0 hx1 hx2 hx3 hx4 hx5 hx6 hfx0 hfx1 hfx2 hfx3 hfx4 hfx5 hfx6 HSb HBX HP1
  obtain ⟨hs0, hs1, hs2, _, _, _⟩ := bx3 HB1.out
  obtain ⟨hx0, hx1, hx2, hx3, hx4, hx5, hx6, hfx0, hfx1, hfx2, hfx3, hfx4, hfx5, hfx6⟩ := bx7 HS1.out.X
  go_wp2
  go_quiet (first | (go_at_call 10; exact Calls.quiet_of (HP2.out _)) | fail)
  have HS2 := Aside0.mk (HS1.out.drewN nq)
  have HB2 := Aside0.mk (blk_drewN HB1.out nq)
  generalize W1.drewN nq = W2 at HS2 HB2 ⊢
  clear hs0 hs1 hs2 hx0 hx1 hx2 hx3 hx4 hx5 hx6 hfx0 hfx1 hfx2 hfx3 hfx4 hfx5 hfx6 HS1 HB1 HP2
  obtain ⟨hs0, hs1, hs2, _, _, _⟩ := bx3 HB2.out
  obtain ⟨hx0, hx1, hx2, hx3, hx4, hx5, hx6, hfx0, hfx1, hfx2, hfx3, hfx4, hfx5, hfx6⟩ := bx7 HS2.out.X
  have hpt := HS2.out.ptr_at i hi3
  have hgs : ∃ g, B.gs.getD i none = some g := by
    cases hg : B.gs.getD i none with
    | none =>
      have := HS2.out.Pn i (by rw [HS2.out.gs_at i hi3, hg])
      rw [List.getD_eq_getElem?_getD, this] at H1
      cases H1
    | some g => exact ⟨g, rfl⟩
  obtain ⟨g, hgs⟩ := hgs
  have hpt2 : W2.cell? ⟨B.gw, i, none⟩ = some (.pointer (some ⟨g, 0, none⟩)) := by rw [hgs] at hpt; exact hpt
  clear hpt
  have hpt := hpt2
  clear hpt2
  go_wp2_with (go_at_call 10; refine (HP3.out _).mono ?_)
  rintro e W3 ⟨rfl, m3, rfl⟩
  have HS3 := Aside0.mk (HS2.out.drewN m3)
  have HB3 := Aside0.mk (blk_drewN HB2.out m3)
  generalize W2.drewN m3 = W3 at HS3 HB3 ⊢
  clear hs0 hs1 hs2 hx0 hx1 hx2 hx3 hx4 hx5 hx6 hfx0 hfx1 hfx2 hfx3 hfx4 hfx5 hfx6 HS2 HB2 HP3 hpt
  obtain ⟨hx0, hx1, hx2, hx3, hx4, hx5, hx6, hfx0, hfx1, hfx2, hfx3, hfx4, hfx5, hfx6⟩ := bx7 HS3.out.X
  have hk0 : ((kd : Int) == 0) = false := beq_eq_false_iff_ne.mpr (by omega)
  have hk1 : ((kd : Int) == 1) = true := beq_iff_eq.mpr (by omega)
  go_wp2
  have hi3z : (i : Int) < 3 := by omega
  refine start_ (n := 21) (S := fun W => PxIs w W B x) (ds := [19]) (bz 21 0) (by kernel_rfl) rfl rfl HS3.out.drew (fun hHeld => ?_); refine with_tabW askR.tab19 askR.bits19 (fun HT_ HW_ => ?_)
  refine pu_ 0 (some 106) (bz 21 1) HT_.out ?_
  refine pu_ 1 (some 107) (bz 21 3) HT_.out ?_
  refine pu_ 2 (some 108) (bz 21 7) HT_.out ?_
  refine pu_ 4 (some 110) (bz 21 23) HT_.out ?_
  refine pu_ 7 (some 113) (bz 21 151) HT_.out ?_
  refine pu_ 8 (some 114) (bz 21 407) HT_.out ?_
  refine pu_ 9 (some 115) (bz 21 919) HT_.out ?_
  refine pu_ 11 (some 117) (bz 21 2967) HT_.out ?_
  refine take_ (i := 3) (N := (some 109)) (v := ?_) (a' := ?_) (bz 21 2975) rfl rfl (take_ofW HT_.out HW_.out (by kernel_rfl)) (fun _ _ _ h => h) (Or.inl ⟨by rfl, ?_⟩) hHeld ?_ ?_
  rotate_left
  · rintro w' s0
    obtain ⟨z0, z1, z2, z3, z4, z5, z6, _, _, _, _, _, _, _⟩ := bx7 s0.X
    go_simp
    with_reducible rfl
  rotate_left
  · simp only [Act.put, sl1, sl2, sl3, i64_w, i32_w]
    rfl
  refine pu_ 5 (some 111) (bz 21 3007) HT_.out ?_
  refine take_ (i := 6) (N := (some 112)) (v := ?_) (a' := ?_) (bz 21 3071) rfl rfl (take_ofW HT_.out HW_.out (by kernel_rfl)) (fun _ _ _ h => h) (Or.inl ⟨by rfl, ?_⟩) hHeld ?_ ?_
  rotate_left
  · rintro w' s0
    obtain ⟨z0, z1, z2, z3, z4⟩ := s0.acc_at k a Ha.out
    go_simp
    with_reducible rfl
  rotate_left
  · simp only [Act.put, sl1, sl2, sl3, i64_w, i32_w]
    rfl
  refine take_ (i := 10) (N := (some 116)) (v := ?_) (a' := ?_) (bz 21 4095) rfl rfl (take_ofW HT_.out HW_.out (by kernel_rfl)) (fun _ _ _ h => h) (Or.inl ⟨by rfl, ?_⟩) hHeld ?_ ?_
  rotate_left
  · rintro w' s0
    obtain ⟨z0, z1, z2, z3, z4, z5, z6, _, _, _, _, _, _, _⟩ := bx7 s0.X
    go_simp
    with_reducible rfl
  rotate_left
  · simp only [Act.put, sl1, sl2, sl3, i64_w, i32_w]
    rfl
  refine pu_ 12 (some 118) (bz 21 8191) HT_.out ?_
  refine take_ (i := 13) (N := (some 119)) (v := ?_) (a' := ?_) (bz 21 16383) rfl rfl (take_ofW HT_.out HW_.out (by kernel_rfl)) (fun _ _ _ h => h) (Or.inl ⟨by rfl, ?_⟩) hHeld ?_ ?_
  rotate_left
  · rintro w' s0
    obtain ⟨z0, z1⟩ := s0.bb_at i b Hb.out
    go_simp
    with_reducible rfl
  rotate_left
  · simp only [Act.put, sl1, sl2, sl3, i64_w, i32_w]
    rfl
  refine join_ (σ := Nat) 2 (bz 21 524287) (fun s => [(120, .tuple #[.agg #[.int .i64 a2.a, .int .i64 a2.b, .int .i64 a2.c, .int .i64 a2.d, .string a2.s], .bool true]), (105, .tuple #[.agg #[.int .i64 a2.a, .int .i64 a2.b, .int .i64 a2.c, .int .i64 a2.d, .string a2.s], .bool true]), (121, .agg #[.int .i64 a2.a, .int .i64 a2.b, .int .i64 a2.c, .int .i64 a2.d, .string a2.s]), (122, .bool true), (12, .pointer (some ⟨s, 0, none⟩))]) (fun s W => PxIs w W B x ∧ W.heap[s]? = some (.cells #[.int .i64 0, .int .i64 0, .int .i64 0, .int .i64 0, .string ⟨#[]⟩] 34 (0, 0)) ∧ W3.heap.size ≤ s) ?_ ?_
  rotate_left
  · intro hJ
    refine two_ (i := 14) (j := 18) (Ni := (some 120)) (Nj := (some 12)) (bz 21 32767) (bz 21 278527) rfl rfl rfl rfl (by kernel_rfl) (by decide) (by decide) (fun K hK => ?_) (fun K hK => ?_)
    · skip
      refine goes_ Tryd.func35 (by kernel_rfl) rfl #[.agg #[.int .i64 a.a, .int .i64 a.b, .int .i64 a.c, .int .i64 a.d, .string a.s], .agg #[.int .i64 b.1, .int .i64 b.2]] (by rfl) rfl rfl am ?_
      refine (acceptor_Prepare.calls a.a a.b a.c a.d a.s b.1 b.2 a2.a a2.b a2.c a2.d a2.s true _ HPR.out).mono ?_
      rintro e w1 ⟨rfl, hb⟩
      refine ⟨_, rfl, ?_⟩
      have hH2 := hHeld.below hb
      refine hK.out _ _ hH2 (fun hHeld => ?_)
      clear hK K
      refine norm_ (a' := ?_) ?_ ?_
      rotate_left
      · show Act.put _ (some 120) _ = _
        simp only [Act.put, sl1, sl2, sl3, i64_w, i32_w]
        rfl
      refine pu_ 15 (some 105) (bz 21 65535) HT_.out ?_
      refine pu_ 16 (some 121) (bz 21 131071) HT_.out ?_
      refine pu_ 17 (some 122) (bz 21 262143) HT_.out ?_
      refine one_ (i := 18) (N := (some 12)) (bz 21 524287) rfl rfl (one_of HT_.out (by kernel_rfl)) (by decide) (fun K hK => ?_)
      refine value_ (w1 := ?_) (v := ?_) (by rfl) rfl ?_ ?_
      rotate_left 2
      · go_simp
        constructor
        · rfl
        · rfl
      have hAL := heap_alloc_new
      refine hK.out _ _ (hHeld.alloc _) (fun hHeld => ?_)
      clear hK K
      refine norm_ (a' := ?_) ?_ ?_
      rotate_left
      · show Act.put _ (some 12) _ = _
        simp only [Act.put, sl1, sl2, sl3, i64_w, i32_w]
        rfl
      exact norm_ (by first | (simp only [putAll, Act.put, sl1, sl2, sl3, i64_w, i32_w]; done) | (simp only [putAll, Act.put, sl1, sl2, sl3, i64_w, i32_w]; rfl)) (hJ _ _ ⟨hHeld, heap_alloc_new _ _, hb.size⟩)
    · skip
      refine value_ (w1 := ?_) (v := ?_) (by rfl) rfl ?_ ?_
      rotate_left 2
      · go_simp
        constructor
        · rfl
        · rfl
      have hAL := heap_alloc_new
      refine hK.out _ _ (hHeld.alloc _) (fun hHeld => ?_)
      clear hK K
      refine norm_ (a' := ?_) ?_ ?_
      rotate_left
      · show Act.put _ (some 12) _ = _
        simp only [Act.put, sl1, sl2, sl3, i64_w, i32_w]
        rfl
      refine one_ (i := 14) (N := (some 120)) (bz 21 294911) rfl rfl (one_of HT_.out (by kernel_rfl)) (by decide) (fun K hK => ?_)
      refine goes_ Tryd.func35 (by kernel_rfl) rfl #[.agg #[.int .i64 a.a, .int .i64 a.b, .int .i64 a.c, .int .i64 a.d, .string a.s], .agg #[.int .i64 b.1, .int .i64 b.2]] (by rfl) rfl rfl am ?_
      refine (acceptor_Prepare.calls a.a a.b a.c a.d a.s b.1 b.2 a2.a a2.b a2.c a2.d a2.s true _ HPR.out).mono ?_
      rintro e w1 ⟨rfl, hb⟩
      refine ⟨_, rfl, ?_⟩
      have hH2 := hHeld.below hb
      refine hK.out _ _ hH2 (fun hHeld => ?_)
      clear hK K
      refine norm_ (a' := ?_) ?_ ?_
      rotate_left
      · show Act.put _ (some 120) _ = _
        simp only [Act.put, sl1, sl2, sl3, i64_w, i32_w]
        rfl
      refine pu_ 15 (some 105) (bz 21 327679) HT_.out ?_
      refine pu_ 16 (some 121) (bz 21 393215) HT_.out ?_
      refine pu_ 17 (some 122) (bz 21 524287) HT_.out ?_
      exact norm_ (by first | (simp only [putAll, Act.put, sl1, sl2, sl3, i64_w, i32_w]; done) | (simp only [putAll, Act.put, sl1, sl2, sl3, i64_w, i32_w]; rfl)) (hJ _ _ ⟨hHeld, blk_below (blk_drew (heap_alloc_new _ _)) hb, Nat.le_refl _⟩)
  intro s W4 hF
  obtain ⟨hS4, hbx4, hs4⟩ := hF
  have HS4 := Aside0.mk hS4
  have HBX4 := Aside0.mk hbx4
  have hbm := HS3.out
  have hs1 : s ≠ B.gx := Nat.ne_of_gt (Nat.lt_of_lt_of_le (blk_lt hbm.X) hs4)
  have hs2 : s ≠ B.ga := Nat.ne_of_gt (Nat.lt_of_lt_of_le (blk_lt hbm.A) hs4)
  have hs3 : s ≠ B.gw := Nat.ne_of_gt (Nat.lt_of_lt_of_le (blk_lt hbm.Wh) hs4)
  have hs5 : s ≠ B.gb := Nat.ne_of_gt (Nat.lt_of_lt_of_le (blk_lt hbm.Bb) hs4)
  have hs6 : s ≠ B.go := Nat.ne_of_gt (Nat.lt_of_lt_of_le (blk_lt hbm.O) hs4)
  have hs9 : s ≠ B.gf := Nat.ne_of_gt (Nat.lt_of_lt_of_le (blk_lt hbm.F) hs4)
  have hs7 : ∀ k, B.vs.ownBlock = some k → ¬ (k = s) := fun k hk e => by have := Kd.R_lt hbm.S k hk; omega
  have hs8 : ∀ (i g : Nat), B.gs[i]? = some (some g) → ¬ (g = s) := fun i g hg e => by
    obtain ⟨_, q, _, hq⟩ := hbm.P i g hg
    have := hq.lt
    omega
  have hsw : w.heap.size ≤ s := Nat.le_trans hbm.Bl.size hs4
  have HAW : Aside0 (∀ W W' : World, PxIs w W B x → Only W W' (· = s) → PxIs w W' B x) := ⟨fun W W' h ho => h.away ho (fun i hi => by rw [hi]; exact hsw) (Ne.symm hs1) (Ne.symm hs2) (Ne.symm hs3) (Ne.symm hs5) (Ne.symm hs6) hs7 (fun i g hg => hs8 i g hg) (Ne.symm hs9)⟩
  clear hS4 hbx4 hbm hs3 hs5 hs6 hs7 hs8 hs9 hs4 HS3
  obtain ⟨hv0, hv1, hv2, hv3, hv4, hfv0, hfv1, hfv2, hfv3, hfv4⟩ := bx5 HBX4.out
  refine norm_ (a' := ?_) ?_ ?_
  rotate_left
  · simp only [putAll, Act.put, sl1, sl2, sl3, i64_w, i32_w]
    rfl
  refine last_ (i := 19) (N := none) (bz 21 1048575) rfl rfl (one_of HT_.out (by kernel_rfl)) (by decide) (fun K hK => ?_)
  refine skip_ (w1 := ?_) (by rfl) rfl ?_ ?_
  rotate_left
  · go_simp
    rfl
  refine hK.out _ _ ?_
  clear hK K
  refine pu_ 20 (some 13) (bz 21 2097151) HT_.out ?_
  refine done_ (done_of HT_.out (by kernel_rfl)) ?_
  clear HT_ HW_ hHeld
  have HS5 := Aside0.mk (HAW.out _ _ HS4.out ((((((Only.refl W4 (· = s)).set_ 0 (.int .i64 a2.a)).set_ 1 (.int .i64 a2.b)).set_ 2 (.int .i64 a2.c)).set_ 3 (.int .i64 a2.d)).set_ 4 (.string a2.s)))
  have HBX5 : Aside0 ((((((W4.setCell ⟨s, 0, none⟩ (.int .i64 a2.a)).setCell ⟨s, 1, none⟩ (.int .i64 a2.b)).setCell ⟨s, 2, none⟩ (.int .i64 a2.c)).setCell ⟨s, 3, none⟩ (.int .i64 a2.d)).setCell ⟨s, 4, none⟩ (.string a2.s)).heap[s]? = some (.cells #[.int .i64 a2.a, .int .i64 a2.b, .int .i64 a2.c, .int .i64 a2.d, .string a2.s] 34 (0, 0))) := ⟨by rw [blk_set (blk_set (blk_set (blk_set (blk_set HBX4.out _ _) _ _) _ _) _ _) _ _]; rfl⟩
  generalize ((((W4.setCell ⟨s, 0, none⟩ (.int .i64 a2.a)).setCell ⟨s, 1, none⟩ (.int .i64 a2.b)).setCell ⟨s, 2, none⟩ (.int .i64 a2.c)).setCell ⟨s, 3, none⟩ (.int .i64 a2.d)).setCell ⟨s, 4, none⟩ (.string a2.s) = W5 at HS5 HBX5 ⊢
  clear hv0 hv1 hv2 hv3 hv4 hfv0 hfv1 hfv2 hfv3 hfv4 hx0 hx1 hx2 hx3 hx4 hx5 hx6 hfx0 hfx1 hfx2 hfx3 hfx4 hfx5 hfx6 HS4 HBX4 HB3
  have hsg : s ≠ B.ga := hs2
  have hga : B.ga ≠ s := Ne.symm hs2
  obtain ⟨hx0, hx1, hx2, hx3, hx4, hx5, hx6, hfx0, hfx1, hfx2, hfx3, hfx4, hfx5, hfx6⟩ := bx7 HS5.out.X
  obtain ⟨hv0, hv1, hv2, hv3, hv4, _, _, _, _, _⟩ := bx5 HBX5.out
  obtain ⟨ha0, ha1, ha2, ha3, ha4⟩ := HS5.out.acc_at k a Ha.out
  have hf0 := blk_frozen HS5.out.A (k * 5)
  have hf1 := blk_frozen HS5.out.A (k * 5 + 1)
  have hf2 := blk_frozen HS5.out.A (k * 5 + 2)
  have hf3 := blk_frozen HS5.out.A (k * 5 + 3)
  have hf4 := blk_frozen HS5.out.A (k * 5 + 4)
  go_wp2
  go_still_tail 6, (by kernel_rfl)
  change wpList _ _ _ _ _ W5.drew
  have HS6 := Aside0.mk ((HS5.out.setAcc k a a2 Ha.out).drew)
  have hgp := HS6.out.who_at i g hgs hi3
  have hgp2 : PrIs ((((((W5.setCell ⟨B.ga, k * 5, none⟩ (.int .i64 a2.a)).setCell ⟨B.ga, k * 5 + 1, none⟩ (.int .i64 a2.b)).setCell ⟨B.ga, k * 5 + 2, none⟩ (.int .i64 a2.c)).setCell ⟨B.ga, k * 5 + 3, none⟩ (.int .i64 a2.d)).setCell ⟨B.ga, k * 5 + 4, none⟩ (.string a2.s)).drew) g p := by
    obtain ⟨_, q, hq, hQ⟩ := hgp
    have e : (x.who.set i (some q))[i]? = (x.who.set i (some q))[i]? := rfl
    have hq2 : x.who[i]? = some (some q) := hq
    rw [List.getD_eq_getElem?_getD, hq2] at H1
    have e2 : q = p := Option.some.inj H1
    rw [← e2]
    exact hQ
  have HGP := Aside0.mk hgp2
  clear hgp hgp2
  go_wp2_with (go_at_call 11; refine (promise_he g p (k : Int) a2 _ HGP.out HS6.out.T).mono ?_)
  rintro e W7 ⟨rfl, hP7, hO7⟩
  have HS7 := Aside0.mk (HS6.out.setPr i g _ (by rw [HS6.out.gs_at i hi3, hgs]) hP7 hO7)
  clear hP7 hO7
  go_wp2
  go_ret
  exact ⟨rfl, B, rfl, HS7.out⟩

end Go.Proofs.YtnmcknfkmelnbaaDoor.P
