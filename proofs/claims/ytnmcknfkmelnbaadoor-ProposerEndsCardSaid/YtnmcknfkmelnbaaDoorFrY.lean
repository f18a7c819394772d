import Derived.Test.YtnmcknfkmelnbaaDoorFrU
import Derived.Test.YtnmcknfkmelnbaaDoorWalkB
import Derived.Test.YtnmcknfkmelnbaaDoorWalkH
import Derived.Test.YtnmcknfkmelnbaaDoorWalkG
import Derived.Outline
import Derived.Laws.BitsAllLaws
import Derived.WalkSpells
import Derived.StillTailTactics
namespace Go.Proofs.YtnmcknfkmelnbaaDoor.P
open Go.RowKit Go.Proofs.YtnmcknfkmelnbaaDoorW.PrintWords Go.Proofs.YtnmcknfkmelnbaaDoorW.PrintLast Go.Proofs.YtnmcknfkmelnbaaDoorW.PrintMore
attribute [local go_sem] max2_int min2_int max_two min_two max_three min_three max_four min_four
set_option linter.unusedVariables false
set_option linter.unusedSimpArgs false
attribute [local go_sem high] eqA23
def tellQ.T29 : Bool × List (List Nat × List Nat) := (true, [([], []), ([0], [0]), ([1], [1]), ([2], [2]), ([], []), ([3, 4], [3, 4]), ([5], [5]), ([], []), ([7], [7]), ([8], [8]), ([9], [9]), ([], []), ([10, 11], [10, 11]), ([12], [12]), ([], []), ([6, 13, 14], [6, 13, 14]), ([15], [15]), ([16], [16]), ([16], [16]), ([], []), ([19, 17, 15, 0, 1, 2, 3, 4, 5, 6, 7, 8, 9, 10, 11, 12, 13, 14, 15, 16, 17, 19], [17, 19]), ([18, 20, 0, 1, 2, 3, 4, 5, 6, 7, 8, 9, 10, 11, 12, 13, 14, 15, 16, 17, 18, 19, 20], [18])])
def tellQ.B29 : List Nat := [0, 1, 3, 7, 0, 31, 63, 0, 128, 384, 896, 0, 3968, 8064, 0, 32767, 65535, 131071, 131071, 0, 786431, 2097151]
theorem tellQ.tab29 : rtab .any (opsOf Tryd.f23 29) = tellQ.T29 := by kernel_rfl
theorem tellQ.bits29 : waitsOk tellQ.T29.2 tellQ.B29 = true := by kernel_rfl
theorem infoStr : (Tryd.prog.info? 9).map (fun i => (i.zero, i.size, i.bytes)) = some (some (.string ⟨#[]⟩), 1, 16) := by kernel_rfl
theorem own_at {w W : World} {B : PxB} {x : PxS} (h : PxIs w W B x) (i : Nat) (hi : i < 3) : W.cell? ⟨B.go, i, none⟩ = some (.string (ownB i)) := by
  have : i = 0 ∨ i = 1 ∨ i = 2 := by omega
  rcases this with rfl | rfl | rfl <;> exact blk_cell h.O _
set_option maxHeartbeats 8000000 in
set_option maxRecDepth 100000 in
theorem step_tell0 (w W : World) (B : PxB) (x : PxS) (kind P A : Int) (hk : inB kind = true) (hP : inB P = true) (hA : inB A = true) (HS : Aside0 (PxIs w W B x)) (p : PrS) (H0 : pickN kind 3 = 2) (H1 : x.who.getD (pickN P 3) none = some p) (v : ByteArray) (er : Int) (HTL : Aside0 (p.tell (ownB (pickN P 3)) = (p, v, er))) (her : (er != 0) = true) :
    Calls Tryd.prog 23 #[.pointer (some ⟨B.gx, 0, none⟩), .agg #[.int .i64 kind, .int .i64 P, .int .i64 A]] W fun e W' => e = .returned (.bool true) ∧ ∃ B', B'.ke = B.ke ∧ PxIs w W' B' { x with who := x.who.set (pickN P 3) (some p) } := by
  obtain ⟨kd, hkd⟩ : ∃ kd, pickN kind 3 = kd := ⟨_, rfl⟩
  obtain ⟨i, hi⟩ : ∃ i, pickN P 3 = i := ⟨_, rfl⟩
  obtain ⟨k, hkk⟩ : ∃ k, pickN A x.n = k := ⟨_, rfl⟩
  have hi3 : i < 3 := by rw [← hi]; exact pickN_lt P 3 (by decide)
  have hkn : k < x.n := by rw [← hkk]; exact pickN_lt A x.n HS.out.n7.1
  have hk3 : kd < 3 := by rw [← hkd]; exact pickN_lt kind 3 (by decide)
  have hn7 := HS.out.n7
  have HP1 := Aside0.mk (fun W => pick_calls P 3 W hP (by decide) (by decide))
  have HP2 := Aside0.mk (fun W => pick_calls A x.n W hA hn7.1 (by omega))
  have HP3 := Aside0.mk (fun W => pick_calls kind 3 W hk (by decide) (by decide))
  rw [hi] at H1 HTL ⊢
  simp only [hi] at HP1
  simp only [hkk] at HP2
  simp only [hkd] at HP3 H0
  clear hk hP hA hi hkk hkd
  have HSb := Aside0.mk (HS.out.alloc (.cells #[.int .i64 kind, .int .i64 P, .int .i64 A] 64))
  have hbx := heap_alloc_new W (.cells #[.int .i64 kind, .int .i64 P, .int .i64 A] 64)
  have hbox := HS.out.box rfl
  obtain ⟨b3, hb3⟩ : ∃ b3, W.heap.size = b3 := ⟨_, rfl⟩
  rw [hb3] at hbx hbox
  have HBX := Aside0.mk hbx
  have HBO := Aside0.mk hbox
  clear hbox hbx
  go_enter Tryd.func23, Tryd.ntmps23
  go_wp2
  try rw [hb3]
  clear hb3
  generalize W.alloc (.cells #[.int .i64 kind, .int .i64 P, .int .i64 A] 64) = W0 at HSb HBX ⊢
  obtain ⟨hs0, hs1, hs2, _, _, _⟩ := bx3 HBX.out
  obtain ⟨hx0, hx1, hx2, hx3, hx4, hx5, hx6, hfx0, hfx1, hfx2, hfx3, hfx4, hfx5, hfx6⟩ := bx7 HSb.out.X
  go_quiet (first | (go_at_call 10; exact Calls.quiet_of (HP1.out _)) | fail)
  have HS1 := Aside0.mk (HSb.out.drewN nq)
  have HB1 := Aside0.mk (blk_drewN HBX.out nq)
  generalize W0.drewN nq = W1 at HS1 HB1 ⊢
  clear hs0 hs1 hs2 hx0 hx1 hx2 hx3 hx4 hx5 hx6 hfx0 hfx1 hfx2 hfx3 hfx4 hfx5 hfx6 HSb HBX HP1
  obtain ⟨hs0, hs1, hs2, _, _, _⟩ := bx3 HB1.out
  obtain ⟨hx0, hx1, hx2, hx3, hx4, hx5, hx6, hfx0, hfx1, hfx2, hfx3, hfx4, hfx5, hfx6⟩ := bx7 HS1.out.X
  go_wp2
  go_quiet (first | (go_at_call 10; exact Calls.quiet_of (HP2.out _)) | fail)
  have HS2 := Aside0.mk (HS1.out.drewN nq)
  have HB2 := Aside0.mk (blk_drewN HB1.out nq)
  generalize W1.drewN nq = W2 at HS2 HB2 ⊢
  clear hs0 hs1 hs2 hx0 hx1 hx2 hx3 hx4 hx5 hx6 hfx0 hfx1 hfx2 hfx3 hfx4 hfx5 hfx6 HS1 HB1 HP2
  obtain ⟨hs0, hs1, hs2, _, _, _⟩ := bx3 HB2.out
  obtain ⟨hx0, hx1, hx2, hx3, hx4, hx5, hx6, hfx0, hfx1, hfx2, hfx3, hfx4, hfx5, hfx6⟩ := bx7 HS2.out.X
  have hpt := HS2.out.ptr_at i hi3
  have hgs : ∃ g, B.gs.getD i none = some g := by
    cases hg : B.gs.getD i none with
    | none =>
      have := HS2.out.Pn i (by rw [HS2.out.gs_at i hi3, hg])
      rw [List.getD_eq_getElem?_getD, this] at H1
      cases H1
    | some g => exact ⟨g, rfl⟩
  obtain ⟨g, hgs⟩ := hgs
  have hpt2 : W2.cell? ⟨B.gw, i, none⟩ = some (.pointer (some ⟨g, 0, none⟩)) := by rw [hgs] at hpt; exact hpt
  clear hpt
  have hpt := hpt2
  clear hpt2
  go_wp2_with (go_at_call 10; refine (HP3.out _).mono ?_)
  rintro e W3 ⟨rfl, m3, rfl⟩
  have HS3 := Aside0.mk (HS2.out.drewN m3)
  have HB3 := Aside0.mk (blk_drewN HB2.out m3)
  generalize W2.drewN m3 = W3 at HS3 HB3 ⊢
  clear hs0 hs1 hs2 hx0 hx1 hx2 hx3 hx4 hx5 hx6 hfx0 hfx1 hfx2 hfx3 hfx4 hfx5 hfx6 HS2 HB2 HP3 hpt
  obtain ⟨hx0, hx1, hx2, hx3, hx4, hx5, hx6, hfx0, hfx1, hfx2, hfx3, hfx4, hfx5, hfx6⟩ := bx7 HS3.out.X
  have hk0 : ((kd : Int) == 0) = false := beq_eq_false_iff_ne.mpr (by omega)
  have hk1 : ((kd : Int) == 1) = false := beq_eq_false_iff_ne.mpr (by omega)
  have hi3z : (i : Int) < 3 := by omega
  have how := own_at HS3.out i hi3
  have HGP : Aside0 (PrIs W3 g p) := ⟨by
    obtain ⟨_, q, hq, hQ⟩ := HS3.out.who_at i g hgs hi3
    rw [List.getD_eq_getElem?_getD, hq] at H1
    have e2 : q = p := Option.some.inj H1
    rw [← e2]
    exact hQ⟩
  go_wp2_with (go_at_call 13; refine (tell_calls g p (ownB i) _ HGP.out).mono ?_)
  rw [HTL.out]
  rintro e WT ⟨rfl, hPT, hOT⟩
  have HS7 := Aside0.mk (HS3.out.setPr i g _ (by rw [HS3.out.gs_at i hi3, hgs]) hPT hOT)
  clear hPT hOT
  go_wp2
  go_ret
  exact ⟨rfl, B, rfl, HS7.out⟩
set_option maxHeartbeats 8000000 in
set_option maxRecDepth 100000 in
theorem step_tell1 (w W : World) (B : PxB) (x : PxS) (kind P A : Int) (hk : inB kind = true) (hP : inB P = true) (hA : inB A = true) (HS : Aside0 (PxIs w W B x)) (p p1 : PrS) (v : ByteArray) (a a2 : AcS) (b : Int × Int) (H0 : pickN kind 3 = 2) (H1 : x.who.getD (pickN P 3) none = some p) (Ha0 : x.acc[pickN A x.n]? = some a) (Hb0 : x.bb[pickN P 3]? = some b) (HTL : Aside0 (p.tell (ownB (pickN P 3)) = (p1, v, 0))) (HPR : Aside0 (∀ W, Calls Tryd.prog 36 #[.agg #[.int .i64 a.a, .int .i64 a.b, .int .i64 a.c, .int .i64 a.d, .string a.s], .agg #[.int .i64 b.1, .int .i64 b.2], .string v] W fun e w' => e = .returned (.tuple #[.agg #[.int .i64 a2.a, .int .i64 a2.b, .int .i64 a2.c, .int .i64 a2.d, .string a2.s], .bool false]) ∧ Below W.heap.size W w')) (hst : (p1.st == 2) = false) :
    Calls Tryd.prog 23 #[.pointer (some ⟨B.gx, 0, none⟩), .agg #[.int .i64 kind, .int .i64 P, .int .i64 A]] W fun e W' => e = .returned (.bool true) ∧ ∃ B', B'.ke = B.ke ∧ PxIs w W' B' { x with who := x.who.set (pickN P 3) (some p1) } := by
  obtain ⟨kd, hkd⟩ : ∃ kd, pickN kind 3 = kd := ⟨_, rfl⟩
  obtain ⟨i, hi⟩ : ∃ i, pickN P 3 = i := ⟨_, rfl⟩
  obtain ⟨k, hkk⟩ : ∃ k, pickN A x.n = k := ⟨_, rfl⟩
  have hi3 : i < 3 := by rw [← hi]; exact pickN_lt P 3 (by decide)
  have hkn : k < x.n := by rw [← hkk]; exact pickN_lt A x.n HS.out.n7.1
  have hk3 : kd < 3 := by rw [← hkd]; exact pickN_lt kind 3 (by decide)
  have hn7 := HS.out.n7
  have HP1 := Aside0.mk (fun W => pick_calls P 3 W hP (by decide) (by decide))
  have HP2 := Aside0.mk (fun W => pick_calls A x.n W hA hn7.1 (by omega))
  have HP3 := Aside0.mk (fun W => pick_calls kind 3 W hk (by decide) (by decide))
  rw [hi] at H1 Hb0 HTL ⊢
  simp only [hi] at HP1
  rw [hkk] at Ha0
  simp only [hkk] at HP2
  simp only [hkd] at HP3 H0
  clear hk hP hA hi hkk hkd
  have Ha := Aside0.mk Ha0
  have Hb := Aside0.mk Hb0
  clear Ha0 Hb0
  have HSb := Aside0.mk (HS.out.alloc (.cells #[.int .i64 kind, .int .i64 P, .int .i64 A] 64))
  have hbx := heap_alloc_new W (.cells #[.int .i64 kind, .int .i64 P, .int .i64 A] 64)
  have hbox := HS.out.box rfl
  obtain ⟨b3, hb3⟩ : ∃ b3, W.heap.size = b3 := ⟨_, rfl⟩
  rw [hb3] at hbx hbox
  have HBX := Aside0.mk hbx
  have HBO := Aside0.mk hbox
  clear hbox hbx
  go_enter Tryd.func23, Tryd.ntmps23
  go_wp2
  try rw [hb3]
  clear hb3
  generalize W.alloc (.cells #[.int .i64 kind, .int .i64 P, .int .i64 A] 64) = W0 at HSb HBX ⊢
  obtain ⟨hs0, hs1, hs2, _, _, _⟩ := bx3 HBX.out
  obtain ⟨hx0, hx1, hx2, hx3, hx4, hx5, hx6, hfx0, hfx1, hfx2, hfx3, hfx4, hfx5, hfx6⟩ := bx7 HSb.out.X
  go_quiet (first | (go_at_call 10; exact Calls.quiet_of (HP1.out _)) | fail)
  have HS1 := Aside0.mk (HSb.out.drewN nq)
  have HB1 := Aside0.mk (blk_drewN HBX.out nq)
  generalize W0.drewN nq = W1 at HS1 HB1 ⊢
  clear hs0 hs1 hs2 hx0 hx1 hx2 hx3 hx4 hx5 hx6 hfx0 hfx1 hfx2 hfx3 hfx4 hfx5 hfx6 HSb HBX HP1
  obtain ⟨hs0, hs1, hs2, _, _, _⟩ := bx3 HB1.out
  obtain ⟨hx0, hx1, hx2, hx3, hx4, hx5, hx6, hfx0, hfx1, hfx2, hfx3, hfx4, hfx5, hfx6⟩ := bx7 HS1.out.X
  go_wp2
  go_quiet (first | (go_at_call 10; exact Calls.quiet_of (HP2.out _)) | fail)
  have HS2 := Aside0.mk (HS1.out.drewN nq)
  have HB2 := Aside0.mk (blk_drewN HB1.out nq)
  generalize W1.drewN nq = W2 at HS2 HB2 ⊢
  clear hs0 hs1 hs2 hx0 hx1 hx2 hx3 hx4 hx5 hx6 hfx0 hfx1 hfx2 hfx3 hfx4 hfx5 hfx6 HS1 HB1 HP2
  obtain ⟨hs0, hs1, hs2, _, _, _⟩ := bx3 HB2.out
  obtain ⟨hx0, hx1, hx2, hx3, hx4, hx5, hx6, hfx0, hfx1, hfx2, hfx3, hfx4, hfx5, hfx6⟩ := bx7 HS2.out.X
  have hpt := HS2.out.ptr_at i hi3
  have hgs : ∃ g, B.gs.getD i none = some g := by
    cases hg : B.gs.getD i none with
    | none =>
      have := HS2.out.Pn i (by rw [HS2.out.gs_at i hi3, hg])
      rw [List.getD_eq_getElem?_getD, this] at H1
      cases H1
    | some g => exact ⟨g, rfl⟩
  obtain ⟨g, hgs⟩ := hgs
  have hpt2 : W2.cell? ⟨B.gw, i, none⟩ = some (.pointer (some ⟨g, 0, none⟩)) := by rw [hgs] at hpt; exact hpt
  clear hpt
  have hpt := hpt2
  clear hpt2
  go_wp2_with (go_at_call 10; refine (HP3.out _).mono ?_)
  rintro e W3 ⟨rfl, m3, rfl⟩
  have HS3 := Aside0.mk (HS2.out.drewN m3)
  have HB3 := Aside0.mk (blk_drewN HB2.out m3)
  generalize W2.drewN m3 = W3 at HS3 HB3 ⊢
  clear hs0 hs1 hs2 hx0 hx1 hx2 hx3 hx4 hx5 hx6 hfx0 hfx1 hfx2 hfx3 hfx4 hfx5 hfx6 HS2 HB2 HP3 hpt
  obtain ⟨hx0, hx1, hx2, hx3, hx4, hx5, hx6, hfx0, hfx1, hfx2, hfx3, hfx4, hfx5, hfx6⟩ := bx7 HS3.out.X
  have hk0 : ((kd : Int) == 0) = false := beq_eq_false_iff_ne.mpr (by omega)
  have hk1 : ((kd : Int) == 1) = false := beq_eq_false_iff_ne.mpr (by omega)
  have hi3z : (i : Int) < 3 := by omega
  have how := own_at HS3.out i hi3
  have HGP : Aside0 (PrIs W3 g p) := ⟨by
    obtain ⟨_, q, hq, hQ⟩ := HS3.out.who_at i g hgs hi3
    rw [List.getD_eq_getElem?_getD, hq] at H1
    have e2 : q = p := Option.some.inj H1
    rw [← e2]
    exact hQ⟩
  go_wp2_with (go_at_call 13; refine (tell_calls g p (ownB i) _ HGP.out).mono ?_)
  rw [HTL.out]
  rintro e WT ⟨rfl, hPT, hOT⟩
  have HS3b := Aside0.mk (HS3.out.setPr i g p1 (by rw [HS3.out.gs_at i hi3, hgs]) hPT hOT)
  clear hx0 hx1 hx2 hx3 hx4 hx5 hx6 hfx0 hfx1 hfx2 hfx3 hfx4 hfx5 hfx6 HS3 HGP how hPT hOT
  obtain ⟨x1, hx1e⟩ : ∃ x1, x1 = ({ x with who := x.who.set i (some p1) } : PxS) := ⟨_, rfl⟩
  have hn1 : x1.n = x.n := by rw [hx1e]
  have HX1 := Aside0.mk hx1e
  have HS3 : Aside0 (PxIs w WT B x1) := ⟨by rw [hx1e]; exact HS3b.out⟩
  have Ha : Aside0 (x1.acc[k]? = some a) := ⟨by rw [hx1e]; exact Ha.out⟩
  have Hb : Aside0 (x1.bb[i]? = some b) := ⟨by rw [hx1e]; exact Hb.out⟩
  have hkn1 : k < x1.n := by rw [hn1]; exact hkn
  have H11 : x1.who[i]? = some (some p1) := by rw [hx1e]; show (x.who.set i _)[i]? = _; rw [List.getElem?_set_self]; have := HS3b.out.lw; rw [show ({ x with who := x.who.set i (some p1) } : PxS).who = x.who.set i (some p1) from rfl, List.length_set] at this; omega
  have H12 := Aside0.mk H11
  have hn7b := HS3.out.n7
  clear hx1e HS3b H11 hn1 hn7
  have W3 := WT
  obtain ⟨hx0, hx1, hx2, hx3, hx4, hx5, hx6, hfx0, hfx1, hfx2, hfx3, hfx4, hfx5, hfx6⟩ := bx7 HS3.out.X
  go_wp2
  refine start_ (n := 22) (S := fun W => PxIs w W B x1) (ds := [20]) (bz 22 0) (by kernel_rfl) rfl rfl HS3.out.drew (fun hHeld => ?_); refine with_tabW tellQ.tab29 tellQ.bits29 (fun HT_ HW_ => ?_)
  refine pu_ 0 (some 152) (bz 22 1) HT_.out ?_
  refine pu_ 1 (some 153) (bz 22 3) HT_.out ?_
  refine pu_ 2 (some 154) (bz 22 7) HT_.out ?_
  refine pu_ 4 (some 156) (bz 22 23) HT_.out ?_
  refine pu_ 7 (some 159) (bz 22 151) HT_.out ?_
  refine pu_ 8 (some 160) (bz 22 407) HT_.out ?_
  refine pu_ 9 (some 161) (bz 22 919) HT_.out ?_
  refine pu_ 11 (some 163) (bz 22 2967) HT_.out ?_
  refine pu_ 14 (some 166) (bz 22 19351) HT_.out ?_
  refine take_ (i := 3) (N := (some 155)) (v := ?_) (a' := ?_) (bz 22 19359) rfl rfl (take_ofW HT_.out HW_.out (by kernel_rfl)) (fun _ _ _ h => h) (Or.inl ⟨by rfl, ?_⟩) hHeld ?_ ?_
  rotate_left
  · rintro w' s0
    obtain ⟨z0, z1, z2, z3, z4, z5, z6, _, _, _, _, _, _, _⟩ := bx7 s0.X
    go_simp
    with_reducible rfl
  rotate_left
  · simp only [Act.put, sl1, sl2, sl3, i64_w, i32_w]
    rfl
  refine pu_ 5 (some 157) (bz 22 19391) HT_.out ?_
  refine take_ (i := 6) (N := (some 158)) (v := ?_) (a' := ?_) (bz 22 19455) rfl rfl (take_ofW HT_.out HW_.out (by kernel_rfl)) (fun _ _ _ h => h) (Or.inl ⟨by rfl, ?_⟩) hHeld ?_ ?_
  rotate_left
  · rintro w' s0
    obtain ⟨z0, z1, z2, z3, z4⟩ := s0.acc_at k a Ha.out
    go_simp
    with_reducible rfl
  rotate_left
  · simp only [Act.put, sl1, sl2, sl3, i64_w, i32_w]
    rfl
  refine take_ (i := 10) (N := (some 162)) (v := ?_) (a' := ?_) (bz 22 20479) rfl rfl (take_ofW HT_.out HW_.out (by kernel_rfl)) (fun _ _ _ h => h) (Or.inl ⟨by rfl, ?_⟩) hHeld ?_ ?_
  rotate_left
  · rintro w' s0
    obtain ⟨z0, z1, z2, z3, z4, z5, z6, _, _, _, _, _, _, _⟩ := bx7 s0.X
    go_simp
    with_reducible rfl
  rotate_left
  · simp only [Act.put, sl1, sl2, sl3, i64_w, i32_w]
    rfl
  refine pu_ 12 (some 164) (bz 22 24575) HT_.out ?_
  refine take_ (i := 13) (N := (some 165)) (v := ?_) (a' := ?_) (bz 22 32767) rfl rfl (take_ofW HT_.out HW_.out (by kernel_rfl)) (fun _ _ _ h => h) (Or.inl ⟨by rfl, ?_⟩) hHeld ?_ ?_
  rotate_left
  · rintro w' s0
    obtain ⟨z0, z1⟩ := s0.bb_at i b Hb.out
    go_simp
    with_reducible rfl
  rotate_left
  · simp only [Act.put, sl1, sl2, sl3, i64_w, i32_w]
    rfl
  refine join_ (σ := Nat) 2 (bz 22 1048575) (fun s => [(167, .tuple #[.agg #[.int .i64 a2.a, .int .i64 a2.b, .int .i64 a2.c, .int .i64 a2.d, .string a2.s], .bool false]), (151, .tuple #[.agg #[.int .i64 a2.a, .int .i64 a2.b, .int .i64 a2.c, .int .i64 a2.d, .string a2.s], .bool false]), (168, .agg #[.int .i64 a2.a, .int .i64 a2.b, .int .i64 a2.c, .int .i64 a2.d, .string a2.s]), (169, .bool false), (16, .pointer (some ⟨s, 0, none⟩))]) (fun s W => PxIs w W B x1 ∧ W.heap[s]? = some (.cells #[.int .i64 0, .int .i64 0, .int .i64 0, .int .i64 0, .string ⟨#[]⟩] 34 (0, 0)) ∧ WT.heap.size ≤ s) ?_ ?_
  rotate_left
  · intro hJ
    refine two_ (i := 15) (j := 19) (Ni := (some 167)) (Nj := (some 16)) (bz 22 65535) (bz 22 557055) rfl rfl rfl rfl (by kernel_rfl) (by decide) (by decide) (fun K hK => ?_) (fun K hK => ?_)
    · skip
      refine goes_ Tryd.func36 (by kernel_rfl) rfl #[.agg #[.int .i64 a.a, .int .i64 a.b, .int .i64 a.c, .int .i64 a.d, .string a.s], .agg #[.int .i64 b.1, .int .i64 b.2], .string v] (by rfl) rfl rfl am ?_
      refine (HPR.out _).mono ?_
      rintro e w1 ⟨rfl, hb⟩
      refine ⟨_, rfl, ?_⟩
      have hH2 := hHeld.below hb
      refine hK.out _ _ hH2 (fun hHeld => ?_)
      clear hK K
      refine norm_ (a' := ?_) ?_ ?_
      rotate_left
      · show Act.put _ (some 167) _ = _
        simp only [Act.put, sl1, sl2, sl3, i64_w, i32_w]
        rfl
      refine pu_ 16 (some 151) (bz 22 131071) HT_.out ?_
      refine pu_ 17 (some 168) (bz 22 262143) HT_.out ?_
      refine pu_ 18 (some 169) (bz 22 524287) HT_.out ?_
      refine one_ (i := 19) (N := (some 16)) (bz 22 1048575) rfl rfl (one_of HT_.out (by kernel_rfl)) (by decide) (fun K hK => ?_)
      refine value_ (w1 := ?_) (v := ?_) (by rfl) rfl ?_ ?_
      rotate_left 2
      · go_simp
        constructor
        · rfl
        · rfl
      have hAL := heap_alloc_new
      refine hK.out _ _ (hHeld.alloc _) (fun hHeld => ?_)
      clear hK K
      refine norm_ (a' := ?_) ?_ ?_
      rotate_left
      · show Act.put _ (some 16) _ = _
        simp only [Act.put, sl1, sl2, sl3, i64_w, i32_w]
        rfl
      exact norm_ (by first | (simp only [putAll, Act.put, sl1, sl2, sl3, i64_w, i32_w]; done) | (simp only [putAll, Act.put, sl1, sl2, sl3, i64_w, i32_w]; rfl)) (hJ _ _ ⟨hHeld, heap_alloc_new _ _, hb.size⟩)
    · skip
      refine value_ (w1 := ?_) (v := ?_) (by rfl) rfl ?_ ?_
      rotate_left 2
      · go_simp
        constructor
        · rfl
        · rfl
      have hAL := heap_alloc_new
      refine hK.out _ _ (hHeld.alloc _) (fun hHeld => ?_)
      clear hK K
      refine norm_ (a' := ?_) ?_ ?_
      rotate_left
      · show Act.put _ (some 16) _ = _
        simp only [Act.put, sl1, sl2, sl3, i64_w, i32_w]
        rfl
      refine one_ (i := 15) (N := (some 167)) (bz 22 589823) rfl rfl (one_of HT_.out (by kernel_rfl)) (by decide) (fun K hK => ?_)
      refine goes_ Tryd.func36 (by kernel_rfl) rfl #[.agg #[.int .i64 a.a, .int .i64 a.b, .int .i64 a.c, .int .i64 a.d, .string a.s], .agg #[.int .i64 b.1, .int .i64 b.2], .string v] (by rfl) rfl rfl am ?_
      refine (HPR.out _).mono ?_
      rintro e w1 ⟨rfl, hb⟩
      refine ⟨_, rfl, ?_⟩
      have hH2 := hHeld.below hb
      refine hK.out _ _ hH2 (fun hHeld => ?_)
      clear hK K
      refine norm_ (a' := ?_) ?_ ?_
      rotate_left
      · show Act.put _ (some 167) _ = _
        simp only [Act.put, sl1, sl2, sl3, i64_w, i32_w]
        rfl
      refine pu_ 16 (some 151) (bz 22 655359) HT_.out ?_
      refine pu_ 17 (some 168) (bz 22 786431) HT_.out ?_
      refine pu_ 18 (some 169) (bz 22 1048575) HT_.out ?_
      exact norm_ (by first | (simp only [putAll, Act.put, sl1, sl2, sl3, i64_w, i32_w]; done) | (simp only [putAll, Act.put, sl1, sl2, sl3, i64_w, i32_w]; rfl)) (hJ _ _ ⟨hHeld, blk_below (blk_drew (heap_alloc_new _ _)) hb, Nat.le_refl _⟩)
  intro s W4 hF
  obtain ⟨hS4, hbx4, hs4⟩ := hF
  have HS4 := Aside0.mk hS4
  have HBX4 := Aside0.mk hbx4
  have hbm := HS3.out
  have hs1 : s ≠ B.gx := Nat.ne_of_gt (Nat.lt_of_lt_of_le (blk_lt hbm.X) hs4)
  have hs2 : s ≠ B.ga := Nat.ne_of_gt (Nat.lt_of_lt_of_le (blk_lt hbm.A) hs4)
  have hs3 : s ≠ B.gw := Nat.ne_of_gt (Nat.lt_of_lt_of_le (blk_lt hbm.Wh) hs4)
  have hs5 : s ≠ B.gb := Nat.ne_of_gt (Nat.lt_of_lt_of_le (blk_lt hbm.Bb) hs4)
  have hs6 : s ≠ B.go := Nat.ne_of_gt (Nat.lt_of_lt_of_le (blk_lt hbm.O) hs4)
  have hs9 : s ≠ B.gf := Nat.ne_of_gt (Nat.lt_of_lt_of_le (blk_lt hbm.F) hs4)
  have hs7 : ∀ k, B.vs.ownBlock = some k → ¬ (k = s) := fun k hk e => by have := Kd.R_lt hbm.S k hk; omega
  have hs8 : ∀ (i g : Nat), B.gs[i]? = some (some g) → ¬ (g = s) := fun i g hg e => by
    obtain ⟨_, q, _, hq⟩ := hbm.P i g hg
    have := hq.lt
    omega
  have hsw : w.heap.size ≤ s := Nat.le_trans hbm.Bl.size hs4
  have HAW : Aside0 (∀ W W' : World, PxIs w W B x1 → Only W W' (· = s) → PxIs w W' B x1) := ⟨fun W W' h ho => h.away ho (fun i hi => by rw [hi]; exact hsw) (Ne.symm hs1) (Ne.symm hs2) (Ne.symm hs3) (Ne.symm hs5) (Ne.symm hs6) hs7 (fun i g hg => hs8 i g hg) (Ne.symm hs9)⟩
  clear hS4 hbx4 hbm hs3 hs5 hs6 hs7 hs8 hs9 hs4 HS3
  obtain ⟨hv0, hv1, hv2, hv3, hv4, hfv0, hfv1, hfv2, hfv3, hfv4⟩ := bx5 HBX4.out
  refine norm_ (a' := ?_) ?_ ?_
  rotate_left
  · simp only [putAll, Act.put, sl1, sl2, sl3, i64_w, i32_w]
    rfl
  refine last_ (i := 20) (N := none) (bz 22 2097151) rfl rfl (one_of HT_.out (by kernel_rfl)) (by decide) (fun K hK => ?_)
  refine skip_ (w1 := ?_) (by rfl) rfl ?_ ?_
  rotate_left
  · go_simp
    rfl
  refine hK.out _ _ ?_
  clear hK K
  refine pu_ 21 (some 17) (bz 22 4194303) HT_.out ?_
  refine done_ (done_of HT_.out (by kernel_rfl)) ?_
  clear HT_ HW_ hHeld
  have HS5 := Aside0.mk (HAW.out _ _ HS4.out ((((((Only.refl W4 (· = s)).set_ 0 (.int .i64 a2.a)).set_ 1 (.int .i64 a2.b)).set_ 2 (.int .i64 a2.c)).set_ 3 (.int .i64 a2.d)).set_ 4 (.string a2.s)))
  have HBX5 : Aside0 ((((((W4.setCell ⟨s, 0, none⟩ (.int .i64 a2.a)).setCell ⟨s, 1, none⟩ (.int .i64 a2.b)).setCell ⟨s, 2, none⟩ (.int .i64 a2.c)).setCell ⟨s, 3, none⟩ (.int .i64 a2.d)).setCell ⟨s, 4, none⟩ (.string a2.s)).heap[s]? = some (.cells #[.int .i64 a2.a, .int .i64 a2.b, .int .i64 a2.c, .int .i64 a2.d, .string a2.s] 34 (0, 0))) := ⟨by rw [blk_set (blk_set (blk_set (blk_set (blk_set HBX4.out _ _) _ _) _ _) _ _) _ _]; rfl⟩
  generalize ((((W4.setCell ⟨s, 0, none⟩ (.int .i64 a2.a)).setCell ⟨s, 1, none⟩ (.int .i64 a2.b)).setCell ⟨s, 2, none⟩ (.int .i64 a2.c)).setCell ⟨s, 3, none⟩ (.int .i64 a2.d)).setCell ⟨s, 4, none⟩ (.string a2.s) = W5 at HS5 HBX5 ⊢
  clear hv0 hv1 hv2 hv3 hv4 hfv0 hfv1 hfv2 hfv3 hfv4 hx0 hx1 hx2 hx3 hx4 hx5 hx6 hfx0 hfx1 hfx2 hfx3 hfx4 hfx5 hfx6 HS4 HBX4 HB3
  have HSQ := HS5
  have HGQ : Aside0 (PrIs W5 g p1) := ⟨by
    obtain ⟨_, q, hq, hQ⟩ := HS5.out.who_at i g hgs hi3
    rw [H12.out] at hq
    have e2 : p1 = q := by injection hq with e3; injection e3
    rw [e2]
    exact hQ⟩
  go_wp2_with (go_at_call 20; refine (state_calls g p1 _ HGQ.out).mono ?_; rintro e w' ⟨rfl, rfl⟩)
  go_ret
  exact ⟨rfl, B, rfl, by rw [HX1.out] at HSQ; exact HSQ.out⟩

attribute [local go_sem high] eqA23
def sayR.T34 : Bool × List (List Nat × List Nat) := (true, [([], []), ([], []), ([1], [1]), ([2], [2]), ([3], [3]), ([], []), ([5], [5]), ([6], [6]), ([4, 7, 6], [4, 7]), ([0, 0, 1, 2, 3, 4, 5, 6, 7, 8], [0]), ([9, 0, 1, 2, 3, 4, 5, 6, 7, 8], [9]), ([10, 8, 8, 0, 1, 2, 3, 4, 5, 6, 7, 8], [8, 10])])
def sayR.B34 : List Nat := [0, 0, 2, 6, 14, 0, 32, 96, 254, 511, 1023, 2047]
theorem sayR.tab34 : rtab .any (opsOf Tryd.f23 34) = sayR.T34 := by kernel_rfl
theorem sayR.bits34 : waitsOk sayR.T34.2 sayR.B34 = true := by kernel_rfl
set_option maxHeartbeats 8000000 in
set_option maxRecDepth 100000 in
theorem step_tell2 (w W : World) (B : PxB) (x : PxS) (kind P A : Int) (hk : inB kind = true) (hP : inB P = true) (hA : inB A = true) (HS : Aside0 (PxIs w W B x)) (p p1 : PrS) (v : ByteArray) (a a2 : AcS) (b : Int × Int) (H0 : pickN kind 3 = 2) (H1 : x.who.getD (pickN P 3) none = some p) (Ha0 : x.acc[pickN A x.n]? = some a) (Hb0 : x.bb[pickN P 3]? = some b) (HTL : Aside0 (p.tell (ownB (pickN P 3)) = (p1, v, 0))) (HPR : Aside0 (∀ W, Calls Tryd.prog 36 #[.agg #[.int .i64 a.a, .int .i64 a.b, .int .i64 a.c, .int .i64 a.d, .string a.s], .agg #[.int .i64 b.1, .int .i64 b.2], .string v] W fun e w' => e = .returned (.tuple #[.agg #[.int .i64 a2.a, .int .i64 a2.b, .int .i64 a2.c, .int .i64 a2.d, .string a2.s], .bool false]) ∧ Below W.heap.size W w')) (hst : (p1.st == 2) = true) (HSL : Aside0 (x.said.length ≤ 1000)) :
    Calls Tryd.prog 23 #[.pointer (some ⟨B.gx, 0, none⟩), .agg #[.int .i64 kind, .int .i64 P, .int .i64 A]] W fun e W' => e = .returned (.bool true) ∧ ∃ B', B'.ke = B.ke ∧ PxIs w W' B' { x with who := x.who.set (pickN P 3) (some p1), said := x.said ++ [p1.val] } := by
  obtain ⟨kd, hkd⟩ : ∃ kd, pickN kind 3 = kd := ⟨_, rfl⟩
  obtain ⟨i, hi⟩ : ∃ i, pickN P 3 = i := ⟨_, rfl⟩
  obtain ⟨k, hkk⟩ : ∃ k, pickN A x.n = k := ⟨_, rfl⟩
  have hi3 : i < 3 := by rw [← hi]; exact pickN_lt P 3 (by decide)
  have hkn : k < x.n := by rw [← hkk]; exact pickN_lt A x.n HS.out.n7.1
  have hk3 : kd < 3 := by rw [← hkd]; exact pickN_lt kind 3 (by decide)
  have hn7 := HS.out.n7
  have HP1 := Aside0.mk (fun W => pick_calls P 3 W hP (by decide) (by decide))
  have HP2 := Aside0.mk (fun W => pick_calls A x.n W hA hn7.1 (by omega))
  have HP3 := Aside0.mk (fun W => pick_calls kind 3 W hk (by decide) (by decide))
  rw [hi] at H1 Hb0 HTL ⊢
  simp only [hi] at HP1
  rw [hkk] at Ha0
  simp only [hkk] at HP2
  simp only [hkd] at HP3 H0
  clear hk hP hA hi hkk hkd
  have Ha := Aside0.mk Ha0
  have Hb := Aside0.mk Hb0
  clear Ha0 Hb0
  have HSb := Aside0.mk (HS.out.alloc (.cells #[.int .i64 kind, .int .i64 P, .int .i64 A] 64))
  have hbx := heap_alloc_new W (.cells #[.int .i64 kind, .int .i64 P, .int .i64 A] 64)
  have hbox := HS.out.box rfl
  obtain ⟨b3, hb3⟩ : ∃ b3, W.heap.size = b3 := ⟨_, rfl⟩
  rw [hb3] at hbx hbox
  have HBX := Aside0.mk hbx
  have HBO := Aside0.mk hbox
  clear hbox hbx
  go_enter Tryd.func23, Tryd.ntmps23
  go_wp2
  try rw [hb3]
  clear hb3
  generalize W.alloc (.cells #[.int .i64 kind, .int .i64 P, .int .i64 A] 64) = W0 at HSb HBX ⊢
  obtain ⟨hs0, hs1, hs2, _, _, _⟩ := bx3 HBX.out
  obtain ⟨hx0, hx1, hx2, hx3, hx4, hx5, hx6, hfx0, hfx1, hfx2, hfx3, hfx4, hfx5, hfx6⟩ := bx7 HSb.out.X
  go_quiet (first | (go_at_call 10; exact Calls.quiet_of (HP1.out _)) | fail)
  have HS1 := Aside0.mk (HSb.out.drewN nq)
  have HB1 := Aside0.mk (blk_drewN HBX.out nq)
  generalize W0.drewN nq = W1 at HS1 HB1 ⊢
  clear hs0 hs1 hs2 hx0 hx1 hx2 hx3 hx4 hx5 hx6 hfx0 hfx1 hfx2 hfx3 hfx4 hfx5 hfx6 HSb HBX HP1
  obtain ⟨hs0, hs1, hs2, _, _, _⟩ := bx3 HB1.out
  obtain ⟨hx0, hx1, hx2, hx3, hx4, hx5, hx6, hfx0, hfx1, hfx2, hfx3, hfx4, hfx5, hfx6⟩ := bx7 HS1.out.X
  go_wp2
  go_quiet (first | (go_at_call 10; exact Calls.quiet_of (HP2.out _)) | fail)
  have HS2 := Aside0.mk (HS1.out.drewN nq)
  have HB2 := Aside0.mk (blk_drewN HB1.out nq)
  generalize W1.drewN nq = W2 at HS2 HB2 ⊢
  clear hs0 hs1 hs2 hx0 hx1 hx2 hx3 hx4 hx5 hx6 hfx0 hfx1 hfx2 hfx3 hfx4 hfx5 hfx6 HS1 HB1 HP2
  obtain ⟨hs0, hs1, hs2, _, _, _⟩ := bx3 HB2.out
  obtain ⟨hx0, hx1, hx2, hx3, hx4, hx5, hx6, hfx0, hfx1, hfx2, hfx3, hfx4, hfx5, hfx6⟩ := bx7 HS2.out.X
  have hpt := HS2.out.ptr_at i hi3
  have hgs : ∃ g, B.gs.getD i none = some g := by
    cases hg : B.gs.getD i none with
    | none =>
      have := HS2.out.Pn i (by rw [HS2.out.gs_at i hi3, hg])
      rw [List.getD_eq_getElem?_getD, this] at H1
      cases H1
    | some g => exact ⟨g, rfl⟩
  obtain ⟨g, hgs⟩ := hgs
  have hpt2 : W2.cell? ⟨B.gw, i, none⟩ = some (.pointer (some ⟨g, 0, none⟩)) := by rw [hgs] at hpt; exact hpt
  clear hpt
  have hpt := hpt2
  clear hpt2
  go_wp2_with (go_at_call 10; refine (HP3.out _).mono ?_)
  rintro e W3 ⟨rfl, m3, rfl⟩
  have HS3 := Aside0.mk (HS2.out.drewN m3)
  have HB3 := Aside0.mk (blk_drewN HB2.out m3)
  generalize W2.drewN m3 = W3 at HS3 HB3 ⊢
  clear hs0 hs1 hs2 hx0 hx1 hx2 hx3 hx4 hx5 hx6 hfx0 hfx1 hfx2 hfx3 hfx4 hfx5 hfx6 HS2 HB2 HP3 hpt
  obtain ⟨hx0, hx1, hx2, hx3, hx4, hx5, hx6, hfx0, hfx1, hfx2, hfx3, hfx4, hfx5, hfx6⟩ := bx7 HS3.out.X
  have hk0 : ((kd : Int) == 0) = false := beq_eq_false_iff_ne.mpr (by omega)
  have hk1 : ((kd : Int) == 1) = false := beq_eq_false_iff_ne.mpr (by omega)
  have hi3z : (i : Int) < 3 := by omega
  have how := own_at HS3.out i hi3
  have HGP : Aside0 (PrIs W3 g p) := ⟨by
    obtain ⟨_, q, hq, hQ⟩ := HS3.out.who_at i g hgs hi3
    rw [List.getD_eq_getElem?_getD, hq] at H1
    have e2 : q = p := Option.some.inj H1
    rw [← e2]
    exact hQ⟩
  go_wp2_with (go_at_call 13; refine (tell_calls g p (ownB i) _ HGP.out).mono ?_)
  rw [HTL.out]
  rintro e WT ⟨rfl, hPT, hOT⟩
  have HS3b := Aside0.mk (HS3.out.setPr i g p1 (by rw [HS3.out.gs_at i hi3, hgs]) hPT hOT)
  clear hx0 hx1 hx2 hx3 hx4 hx5 hx6 hfx0 hfx1 hfx2 hfx3 hfx4 hfx5 hfx6 HS3 HGP how hPT hOT
  obtain ⟨x1, hx1e⟩ : ∃ x1, x1 = ({ x with who := x.who.set i (some p1) } : PxS) := ⟨_, rfl⟩
  have hn1 : x1.n = x.n := by rw [hx1e]
  have HX1 := Aside0.mk hx1e
  have HS3 : Aside0 (PxIs w WT B x1) := ⟨by rw [hx1e]; exact HS3b.out⟩
  have Ha : Aside0 (x1.acc[k]? = some a) := ⟨by rw [hx1e]; exact Ha.out⟩
  have Hb : Aside0 (x1.bb[i]? = some b) := ⟨by rw [hx1e]; exact Hb.out⟩
  have hkn1 : k < x1.n := by rw [hn1]; exact hkn
  have H11 : x1.who[i]? = some (some p1) := by rw [hx1e]; show (x.who.set i _)[i]? = _; rw [List.getElem?_set_self]; have := HS3b.out.lw; rw [show ({ x with who := x.who.set i (some p1) } : PxS).who = x.who.set i (some p1) from rfl, List.length_set] at this; omega
  have H12 := Aside0.mk H11
  have hn7b := HS3.out.n7
  have HSL : Aside0 (x1.said.length ≤ 1000) := ⟨by rw [hx1e]; exact HSL.out⟩
  clear hx1e HS3b H11 hn1 hn7
  have W3 := WT
  obtain ⟨hx0, hx1, hx2, hx3, hx4, hx5, hx6, hfx0, hfx1, hfx2, hfx3, hfx4, hfx5, hfx6⟩ := bx7 HS3.out.X
  go_wp2
  refine start_ (n := 22) (S := fun W => PxIs w W B x1) (ds := [20]) (bz 22 0) (by kernel_rfl) rfl rfl HS3.out.drew (fun hHeld => ?_); refine with_tabW tellQ.tab29 tellQ.bits29 (fun HT_ HW_ => ?_)
  refine pu_ 0 (some 152) (bz 22 1) HT_.out ?_
  refine pu_ 1 (some 153) (bz 22 3) HT_.out ?_
  refine pu_ 2 (some 154) (bz 22 7) HT_.out ?_
  refine pu_ 4 (some 156) (bz 22 23) HT_.out ?_
  refine pu_ 7 (some 159) (bz 22 151) HT_.out ?_
  refine pu_ 8 (some 160) (bz 22 407) HT_.out ?_
  refine pu_ 9 (some 161) (bz 22 919) HT_.out ?_
  refine pu_ 11 (some 163) (bz 22 2967) HT_.out ?_
  refine pu_ 14 (some 166) (bz 22 19351) HT_.out ?_
  refine take_ (i := 3) (N := (some 155)) (v := ?_) (a' := ?_) (bz 22 19359) rfl rfl (take_ofW HT_.out HW_.out (by kernel_rfl)) (fun _ _ _ h => h) (Or.inl ⟨by rfl, ?_⟩) hHeld ?_ ?_
  rotate_left
  · rintro w' s0
    obtain ⟨z0, z1, z2, z3, z4, z5, z6, _, _, _, _, _, _, _⟩ := bx7 s0.X
    go_simp
    with_reducible rfl
  rotate_left
  · simp only [Act.put, sl1, sl2, sl3, i64_w, i32_w]
    rfl
  refine pu_ 5 (some 157) (bz 22 19391) HT_.out ?_
  refine take_ (i := 6) (N := (some 158)) (v := ?_) (a' := ?_) (bz 22 19455) rfl rfl (take_ofW HT_.out HW_.out (by kernel_rfl)) (fun _ _ _ h => h) (Or.inl ⟨by rfl, ?_⟩) hHeld ?_ ?_
  rotate_left
  · rintro w' s0
    obtain ⟨z0, z1, z2, z3, z4⟩ := s0.acc_at k a Ha.out
    go_simp
    with_reducible rfl
  rotate_left
  · simp only [Act.put, sl1, sl2, sl3, i64_w, i32_w]
    rfl
  refine take_ (i := 10) (N := (some 162)) (v := ?_) (a' := ?_) (bz 22 20479) rfl rfl (take_ofW HT_.out HW_.out (by kernel_rfl)) (fun _ _ _ h => h) (Or.inl ⟨by rfl, ?_⟩) hHeld ?_ ?_
  rotate_left
  · rintro w' s0
    obtain ⟨z0, z1, z2, z3, z4, z5, z6, _, _, _, _, _, _, _⟩ := bx7 s0.X
    go_simp
    with_reducible rfl
  rotate_left
  · simp only [Act.put, sl1, sl2, sl3, i64_w, i32_w]
    rfl
  refine pu_ 12 (some 164) (bz 22 24575) HT_.out ?_
  refine take_ (i := 13) (N := (some 165)) (v := ?_) (a' := ?_) (bz 22 32767) rfl rfl (take_ofW HT_.out HW_.out (by kernel_rfl)) (fun _ _ _ h => h) (Or.inl ⟨by rfl, ?_⟩) hHeld ?_ ?_
  rotate_left
  · rintro w' s0
    obtain ⟨z0, z1⟩ := s0.bb_at i b Hb.out
    go_simp
    with_reducible rfl
  rotate_left
  · simp only [Act.put, sl1, sl2, sl3, i64_w, i32_w]
    rfl
  refine join_ (σ := Nat) 2 (bz 22 1048575) (fun s => [(167, .tuple #[.agg #[.int .i64 a2.a, .int .i64 a2.b, .int .i64 a2.c, .int .i64 a2.d, .string a2.s], .bool false]), (151, .tuple #[.agg #[.int .i64 a2.a, .int .i64 a2.b, .int .i64 a2.c, .int .i64 a2.d, .string a2.s], .bool false]), (168, .agg #[.int .i64 a2.a, .int .i64 a2.b, .int .i64 a2.c, .int .i64 a2.d, .string a2.s]), (169, .bool false), (16, .pointer (some ⟨s, 0, none⟩))]) (fun s W => PxIs w W B x1 ∧ W.heap[s]? = some (.cells #[.int .i64 0, .int .i64 0, .int .i64 0, .int .i64 0, .string ⟨#[]⟩] 34 (0, 0)) ∧ WT.heap.size ≤ s) ?_ ?_
  rotate_left
  · intro hJ
    refine two_ (i := 15) (j := 19) (Ni := (some 167)) (Nj := (some 16)) (bz 22 65535) (bz 22 557055) rfl rfl rfl rfl (by kernel_rfl) (by decide) (by decide) (fun K hK => ?_) (fun K hK => ?_)
    · skip
      refine goes_ Tryd.func36 (by kernel_rfl) rfl #[.agg #[.int .i64 a.a, .int .i64 a.b, .int .i64 a.c, .int .i64 a.d, .string a.s], .agg #[.int .i64 b.1, .int .i64 b.2], .string v] (by rfl) rfl rfl am ?_
      refine (HPR.out _).mono ?_
      rintro e w1 ⟨rfl, hb⟩
      refine ⟨_, rfl, ?_⟩
      have hH2 := hHeld.below hb
      refine hK.out _ _ hH2 (fun hHeld => ?_)
      clear hK K
      refine norm_ (a' := ?_) ?_ ?_
      rotate_left
      · show Act.put _ (some 167) _ = _
        simp only [Act.put, sl1, sl2, sl3, i64_w, i32_w]
        rfl
      refine pu_ 16 (some 151) (bz 22 131071) HT_.out ?_
      refine pu_ 17 (some 168) (bz 22 262143) HT_.out ?_
      refine pu_ 18 (some 169) (bz 22 524287) HT_.out ?_
      refine one_ (i := 19) (N := (some 16)) (bz 22 1048575) rfl rfl (one_of HT_.out (by kernel_rfl)) (by decide) (fun K hK => ?_)
      refine value_ (w1 := ?_) (v := ?_) (by rfl) rfl ?_ ?_
      rotate_left 2
      · go_simp
        constructor
        · rfl
        · rfl
      have hAL := heap_alloc_new
      refine hK.out _ _ (hHeld.alloc _) (fun hHeld => ?_)
      clear hK K
      refine norm_ (a' := ?_) ?_ ?_
      rotate_left
      · show Act.put _ (some 16) _ = _
        simp only [Act.put, sl1, sl2, sl3, i64_w, i32_w]
        rfl
      exact norm_ (by first | (simp only [putAll, Act.put, sl1, sl2, sl3, i64_w, i32_w]; done) | (simp only [putAll, Act.put, sl1, sl2, sl3, i64_w, i32_w]; rfl)) (hJ _ _ ⟨hHeld, heap_alloc_new _ _, hb.size⟩)
    · skip
      refine value_ (w1 := ?_) (v := ?_) (by rfl) rfl ?_ ?_
      rotate_left 2
      · go_simp
        constructor
        · rfl
        · rfl
      have hAL := heap_alloc_new
      refine hK.out _ _ (hHeld.alloc _) (fun hHeld => ?_)
      clear hK K
      refine norm_ (a' := ?_) ?_ ?_
      rotate_left
      · show Act.put _ (some 16) _ = _
        simp only [Act.put, sl1, sl2, sl3, i64_w, i32_w]
        rfl
      refine one_ (i := 15) (N := (some 167)) (bz 22 589823) rfl rfl (one_of HT_.out (by kernel_rfl)) (by decide) (fun K hK => ?_)
      refine goes_ Tryd.func36 (by kernel_rfl) rfl #[.agg #[.int .i64 a.a, .int .i64 a.b, .int .i64 a.c, .int .i64 a.d, .string a.s], .agg #[.int .i64 b.1, .int .i64 b.2], .string v] (by rfl) rfl rfl am ?_
      refine (HPR.out _).mono ?_
      rintro e w1 ⟨rfl, hb⟩
      refine ⟨_, rfl, ?_⟩
      have hH2 := hHeld.below hb
      refine hK.out _ _ hH2 (fun hHeld => ?_)
      clear hK K
      refine norm_ (a' := ?_) ?_ ?_
      rotate_left
      · show Act.put _ (some 167) _ = _
        simp only [Act.put, sl1, sl2, sl3, i64_w, i32_w]
        rfl
      refine pu_ 16 (some 151) (bz 22 655359) HT_.out ?_
      refine pu_ 17 (some 168) (bz 22 786431) HT_.out ?_
      refine pu_ 18 (some 169) (bz 22 1048575) HT_.out ?_
      exact norm_ (by first | (simp only [putAll, Act.put, sl1, sl2, sl3, i64_w, i32_w]; done) | (simp only [putAll, Act.put, sl1, sl2, sl3, i64_w, i32_w]; rfl)) (hJ _ _ ⟨hHeld, blk_below (blk_drew (heap_alloc_new _ _)) hb, Nat.le_refl _⟩)
  intro s W4 hF
  obtain ⟨hS4, hbx4, hs4⟩ := hF
  have HS4 := Aside0.mk hS4
  have HBX4 := Aside0.mk hbx4
  have hbm := HS3.out
  have hs1 : s ≠ B.gx := Nat.ne_of_gt (Nat.lt_of_lt_of_le (blk_lt hbm.X) hs4)
  have hs2 : s ≠ B.ga := Nat.ne_of_gt (Nat.lt_of_lt_of_le (blk_lt hbm.A) hs4)
  have hs3 : s ≠ B.gw := Nat.ne_of_gt (Nat.lt_of_lt_of_le (blk_lt hbm.Wh) hs4)
  have hs5 : s ≠ B.gb := Nat.ne_of_gt (Nat.lt_of_lt_of_le (blk_lt hbm.Bb) hs4)
  have hs6 : s ≠ B.go := Nat.ne_of_gt (Nat.lt_of_lt_of_le (blk_lt hbm.O) hs4)
  have hs9 : s ≠ B.gf := Nat.ne_of_gt (Nat.lt_of_lt_of_le (blk_lt hbm.F) hs4)
  have hs7 : ∀ k, B.vs.ownBlock = some k → ¬ (k = s) := fun k hk e => by have := Kd.R_lt hbm.S k hk; omega
  have hs8 : ∀ (i g : Nat), B.gs[i]? = some (some g) → ¬ (g = s) := fun i g hg e => by
    obtain ⟨_, q, _, hq⟩ := hbm.P i g hg
    have := hq.lt
    omega
  have hsw : w.heap.size ≤ s := Nat.le_trans hbm.Bl.size hs4
  have HAW : Aside0 (∀ W W' : World, PxIs w W B x1 → Only W W' (· = s) → PxIs w W' B x1) := ⟨fun W W' h ho => h.away ho (fun i hi => by rw [hi]; exact hsw) (Ne.symm hs1) (Ne.symm hs2) (Ne.symm hs3) (Ne.symm hs5) (Ne.symm hs6) hs7 (fun i g hg => hs8 i g hg) (Ne.symm hs9)⟩
  clear hS4 hbx4 hbm hs3 hs5 hs6 hs7 hs8 hs9 hs4 HS3
  obtain ⟨hv0, hv1, hv2, hv3, hv4, hfv0, hfv1, hfv2, hfv3, hfv4⟩ := bx5 HBX4.out
  refine norm_ (a' := ?_) ?_ ?_
  rotate_left
  · simp only [putAll, Act.put, sl1, sl2, sl3, i64_w, i32_w]
    rfl
  refine last_ (i := 20) (N := none) (bz 22 2097151) rfl rfl (one_of HT_.out (by kernel_rfl)) (by decide) (fun K hK => ?_)
  refine skip_ (w1 := ?_) (by rfl) rfl ?_ ?_
  rotate_left
  · go_simp
    rfl
  refine hK.out _ _ ?_
  clear hK K
  refine pu_ 21 (some 17) (bz 22 4194303) HT_.out ?_
  refine done_ (done_of HT_.out (by kernel_rfl)) ?_
  clear HT_ HW_ hHeld
  have HS5 := Aside0.mk (HAW.out _ _ HS4.out ((((((Only.refl W4 (· = s)).set_ 0 (.int .i64 a2.a)).set_ 1 (.int .i64 a2.b)).set_ 2 (.int .i64 a2.c)).set_ 3 (.int .i64 a2.d)).set_ 4 (.string a2.s)))
  have HBX5 : Aside0 ((((((W4.setCell ⟨s, 0, none⟩ (.int .i64 a2.a)).setCell ⟨s, 1, none⟩ (.int .i64 a2.b)).setCell ⟨s, 2, none⟩ (.int .i64 a2.c)).setCell ⟨s, 3, none⟩ (.int .i64 a2.d)).setCell ⟨s, 4, none⟩ (.string a2.s)).heap[s]? = some (.cells #[.int .i64 a2.a, .int .i64 a2.b, .int .i64 a2.c, .int .i64 a2.d, .string a2.s] 34 (0, 0))) := ⟨by rw [blk_set (blk_set (blk_set (blk_set (blk_set HBX4.out _ _) _ _) _ _) _ _) _ _]; rfl⟩
  generalize ((((W4.setCell ⟨s, 0, none⟩ (.int .i64 a2.a)).setCell ⟨s, 1, none⟩ (.int .i64 a2.b)).setCell ⟨s, 2, none⟩ (.int .i64 a2.c)).setCell ⟨s, 3, none⟩ (.int .i64 a2.d)).setCell ⟨s, 4, none⟩ (.string a2.s) = W5 at HS5 HBX5 ⊢
  clear hv0 hv1 hv2 hv3 hv4 hfv0 hfv1 hfv2 hfv3 hfv4 hx0 hx1 hx2 hx3 hx4 hx5 hx6 hfx0 hfx1 hfx2 hfx3 hfx4 hfx5 hfx6 HS4 HBX4 HB3
  have HSQ := HS5
  have HGQ : Aside0 (PrIs W5 g p1) := ⟨by
    obtain ⟨_, q, hq, hQ⟩ := HS5.out.who_at i g hgs hi3
    rw [H12.out] at hq
    have e2 : p1 = q := by injection hq with e3; injection e3
    rw [e2]
    exact hQ⟩
  go_wp2_with (go_at_call 20; refine (state_calls g p1 _ HGQ.out).mono ?_)
  rintro e w' ⟨rfl, rfl⟩
  obtain ⟨hx0, hx1, hx2, hx3, hx4, hx5, hx6, hfx0, hfx1, hfx2, hfx3, hfx4, hfx5, hfx6⟩ := bx7 HSQ.out.X
  go_wp2
  refine start_ (n := 12) (S := fun W => PxIs w W B x1 ∧ PrIs W g p1) (ds := [8, 11]) (bz 12 0) (by kernel_rfl) rfl rfl ⟨HSQ.out.drew, HGQ.out.drew⟩ (fun hHeld => ?_); refine with_tabW sayR.tab34 sayR.bits34 (fun HT_ HW_ => ?_)
  generalize World.drew _ = W8 at hHeld ⊢
  refine pu_ 0 (some 184) (bz 12 1) HT_.out ?_
  refine pu_ 1 (some 185) (bz 12 3) HT_.out ?_
  refine pu_ 2 (some 186) (bz 12 7) HT_.out ?_
  refine pu_ 3 (some 187) (bz 12 15) HT_.out ?_
  refine pu_ 5 (some 189) (bz 12 47) HT_.out ?_
  refine take_ (i := 4) (N := (some 188)) (v := ?_) (a' := ?_) (bz 12 63) rfl rfl (take_ofW HT_.out HW_.out (by kernel_rfl)) (fun _ _ _ h => h) (Or.inl ⟨by rfl, ?_⟩) hHeld ?_ ?_
  rotate_left
  · rintro w' ⟨s0, _⟩
    obtain ⟨z0, z1, z2, z3, z4, z5, z6, _, _, _, _, _, _, _⟩ := bx7 s0.X
    go_simp
    with_reducible rfl
  rotate_left
  · simp only [Act.put, sl1, sl2, sl3, i64_w, i32_w]
    rfl
  refine one_ (i := 6) (N := (some 190)) (bz 12 127) rfl rfl (one_of HT_.out (by kernel_rfl)) (by decide) (fun K hK => ?_)
  refine goes_ Tryd.func21 (by kernel_rfl) rfl #[.pointer (some ⟨g, 0, none⟩)] (by rfl) rfl rfl am ?_
  refine (value_calls g p1 _ hHeld.2).mono ?_
  rintro e w'' ⟨rfl, rfl⟩
  refine ⟨_, rfl, ?_⟩
  refine hK.out _ _ hHeld (fun hHeld => ?_)
  clear hK K
  refine norm_ (a' := ?_) ?_ ?_
  rotate_left
  · show Act.put _ (some 190) _ = _
    simp only [Act.put, sl1, sl2, sl3, i64_w, i32_w]
    rfl
  refine one_ (i := 7) (N := (some 191)) (bz 12 255) rfl rfl (one_of HT_.out (by kernel_rfl)) (by decide) (fun K hK => ?_)
  refine value_ (w1 := ?_) (v := ?_) (by rfl) rfl ?_ ?_
  rotate_left 2
  · go_simp
    constructor
    · rfl
    · rfl
  have HSL2 := Aside0.mk hHeld
  refine hK.out _ _ ⟨hHeld.1.alloc _, hHeld.2.below (below_alloc (Below.refl _ _) _)⟩ (fun hHeld => ?_)
  clear hK K
  refine norm_ (a' := ?_) ?_ ?_
  rotate_left
  · show Act.put _ (some 191) _ = _
    simp only [Act.put, sl1, sl2, sl3, i64_w, i32_w]
    rfl
  refine last_ (i := 8) (N := (some 192)) (bz 12 511) rfl rfl (one_of HT_.out (by kernel_rfl)) (by decide) (fun K hK => ?_)
  have hgol := blk_lt HSL2.out.1.O
  have hgof := blk_lt HSL2.out.1.F
  refine Kd.R_append_step Kd.string (w0 := w) w.heap.size (by rfl) (.tmp 188) (.tmp 191) 58 9 (.string ⟨#[]⟩) 16 rfl Tryd.underlying58 infoStr rfl (by decide) (by omega) B.vs x1.said p1.val [.string p1.val] (fun k => k ≠ B.go ∧ k ≠ B.gf) (fun _ => False) rfl rfl ?aP (fun _ hk => hk.elim) ?aF ?aO ?aB ?aS ?aL ?_
  case aP => exact rfl
  case aF => exact (fun k hk => ⟨fun e => by omega, fun e => by omega⟩)
  case aO => exact HSL2.out.1.S
  case aB => exact HSL2.out.1.Bl
  case aS => exact HSL2.out.1.Bl.size
  case aL => have := HSL.out; omega
  intro v1 w6 ho hb hg hat
  obtain ⟨Av, cv, ev⟩ := Kd.R_slice ho
  subst ev
  have hXn := blk_grown HSL2.out.1.X hg (fun e => HSL2.out.1.neT HSL2.out.1.X (by decide) e.symm)
  have HSF := Aside0.mk (HSL2.out.1.say _ p1.val ho hg)
  refine hK.out _ _ ?_
  clear hK K
  refine norm_ (a' := ?_) ?_ ?_
  rotate_left
  · show Act.put _ (some 192) _ = _
    simp only [Act.put, sl1, sl2, sl3, i64_w, i32_w]
    rfl
  obtain ⟨hn0, hn1, hn2, hn3, hn4, hn5, hn6, hfn0, hfn1, hfn2, hfn3, hfn4, hfn5, hfn6⟩ := bx7 hXn
  refine pu_ 9 (some 193) (bz 12 1023) HT_.out ?_
  refine pu_ 10 (some 194) (bz 12 2047) HT_.out ?_
  refine last_ (i := 11) (N := none) (bz 12 4095) rfl rfl (one_of HT_.out (by kernel_rfl)) (by decide) (fun K hK => ?_)
  refine skip_ (w1 := ?_) (by rfl) rfl ?_ ?_
  rotate_left
  · go_simp
    rfl
  refine hK.out _ _ ?_
  clear hK K
  refine done_ (done_of HT_.out (by kernel_rfl)) ?_
  clear HT_ HW_
  go_wp2
  go_ret
  have hsf := HSF.out
  rw [List.length_append, List.length_singleton] at hsf
  refine ⟨rfl, ?_⟩
  obtain rfl := HX1.out
  refine ⟨_, ?_, hsf⟩
  rfl

attribute [local go_sem high] eqA23
set_option maxHeartbeats 8000000 in
set_option maxRecDepth 100000 in
theorem step_tell3 (w W : World) (B : PxB) (x : PxS) (kind P A : Int) (hk : inB kind = true) (hP : inB P = true) (hA : inB A = true) (HS : Aside0 (PxIs w W B x)) (p p1 : PrS) (v : ByteArray) (a a2 : AcS) (b : Int × Int) (H0 : pickN kind 3 = 2) (H1 : x.who.getD (pickN P 3) none = some p) (Ha0 : x.acc[pickN A x.n]? = some a) (Hb0 : x.bb[pickN P 3]? = some b) (HTL : Aside0 (p.tell (ownB (pickN P 3)) = (p1, v, 0))) (HPR : Aside0 (∀ W, Calls Tryd.prog 36 #[.agg #[.int .i64 a.a, .int .i64 a.b, .int .i64 a.c, .int .i64 a.d, .string a.s], .agg #[.int .i64 b.1, .int .i64 b.2], .string v] W fun e w' => e = .returned (.tuple #[.agg #[.int .i64 a2.a, .int .i64 a2.b, .int .i64 a2.c, .int .i64 a2.d, .string a2.s], .bool true]) ∧ Below W.heap.size W w')) (hst0 : ((p1.taken (pickN A x.n : Int)).1.st == 2) = false) :
    Calls Tryd.prog 23 #[.pointer (some ⟨B.gx, 0, none⟩), .agg #[.int .i64 kind, .int .i64 P, .int .i64 A]] W fun e W' => e = .returned (.bool true) ∧ ∃ B', B'.ke = B.ke ∧ PxIs w W' B' { x with acc := x.acc.set (pickN A x.n) a2, who := x.who.set (pickN P 3) (some (p1.taken (pickN A x.n : Int)).1) } := by
  obtain ⟨kd, hkd⟩ : ∃ kd, pickN kind 3 = kd := ⟨_, rfl⟩
  obtain ⟨i, hi⟩ : ∃ i, pickN P 3 = i := ⟨_, rfl⟩
  obtain ⟨k, hkk⟩ : ∃ k, pickN A x.n = k := ⟨_, rfl⟩
  have hi3 : i < 3 := by rw [← hi]; exact pickN_lt P 3 (by decide)
  have hkn : k < x.n := by rw [← hkk]; exact pickN_lt A x.n HS.out.n7.1
  have hk3 : kd < 3 := by rw [← hkd]; exact pickN_lt kind 3 (by decide)
  have hn7 := HS.out.n7
  have HP1 := Aside0.mk (fun W => pick_calls P 3 W hP (by decide) (by decide))
  have HP2 := Aside0.mk (fun W => pick_calls A x.n W hA hn7.1 (by omega))
  have HP3 := Aside0.mk (fun W => pick_calls kind 3 W hk (by decide) (by decide))
  rw [hi] at H1 Hb0 HTL ⊢
  simp only [hi] at HP1
  rw [hkk] at Ha0 hst0 ⊢
  have hst := hst0
  clear hst0
  simp only [hkk] at HP2
  simp only [hkd] at HP3 H0
  clear hk hP hA hi hkk hkd
  have Ha := Aside0.mk Ha0
  have Hb := Aside0.mk Hb0
  clear Ha0 Hb0
  have HSb := Aside0.mk (HS.out.alloc (.cells #[.int .i64 kind, .int .i64 P, .int .i64 A] 64))
  have hbx := heap_alloc_new W (.cells #[.int .i64 kind, .int .i64 P, .int .i64 A] 64)
  have hbox := HS.out.box rfl
  obtain ⟨b3, hb3⟩ : ∃ b3, W.heap.size = b3 := ⟨_, rfl⟩
  rw [hb3] at hbx hbox
  have HBX := Aside0.mk hbx
  have HBO := Aside0.mk hbox
  clear hbox hbx
  go_enter Tryd.func23, Tryd.ntmps23
  go_wp2
  try rw [hb3]
  clear hb3
  generalize W.alloc (.cells #[.int .i64 kind, .int .i64 P, .int .i64 A] 64) = W0 at HSb HBX ⊢
  obtain ⟨hs0, hs1, hs2, _, _, _⟩ := bx3 HBX.out
  obtain ⟨hx0, hx1, hx2, hx3, hx4, hx5, hx6, hfx0, hfx1, hfx2, hfx3, hfx4, hfx5, hfx6⟩ := bx7 HSb.out.X
  go_quiet (first | (go_at_call 10; exact Calls.quiet_of (HP1.out _)) | fail)
  have HS1 := Aside0.mk (HSb.out.drewN nq)
  have HB1 := Aside0.mk (blk_drewN HBX.out nq)
  generalize W0.drewN nq = W1 at HS1 HB1 ⊢
  clear hs0 hs1 hs2 hx0 hx1 hx2 hx3 hx4 hx5 hx6 hfx0 hfx1 hfx2 hfx3 hfx4 hfx5 hfx6 HSb HBX HP1
  obtain ⟨hs0, hs1, hs2, _, _, _⟩ := bx3 HB1.out
  obtain ⟨hx0, hx1, hx2, hx3, hx4, hx5, hx6, hfx0, hfx1, hfx2, hfx3, hfx4, hfx5, hfx6⟩ := bx7 HS1.out.X
  go_wp2
  go_quiet (first | (go_at_call 10; exact Calls.quiet_of (HP2.out _)) | fail)
  have HS2 := Aside0.mk (HS1.out.drewN nq)
  have HB2 := Aside0.mk (blk_drewN HB1.out nq)
  generalize W1.drewN nq = W2 at HS2 HB2 ⊢
  clear hs0 hs1 hs2 hx0 hx1 hx2 hx3 hx4 hx5 hx6 hfx0 hfx1 hfx2 hfx3 hfx4 hfx5 hfx6 HS1 HB1 HP2
  obtain ⟨hs0, hs1, hs2, _, _, _⟩ := bx3 HB2.out
  obtain ⟨hx0, hx1, hx2, hx3, hx4, hx5, hx6, hfx0, hfx1, hfx2, hfx3, hfx4, hfx5, hfx6⟩ := bx7 HS2.out.X
  have hpt := HS2.out.ptr_at i hi3
  have hgs : ∃ g, B.gs.getD i none = some g := by
    cases hg : B.gs.getD i none with
    | none =>
      have := HS2.out.Pn i (by rw [HS2.out.gs_at i hi3, hg])
      rw [List.getD_eq_getElem?_getD, this] at H1
      cases H1
    | some g => exact ⟨g, rfl⟩
  obtain ⟨g, hgs⟩ := hgs
  have hpt2 : W2.cell? ⟨B.gw, i, none⟩ = some (.pointer (some ⟨g, 0, none⟩)) := by rw [hgs] at hpt; exact hpt
  clear hpt
  have hpt := hpt2
  clear hpt2
  go_wp2_with (go_at_call 10; refine (HP3.out _).mono ?_)
  rintro e W3 ⟨rfl, m3, rfl⟩
  have HS3 := Aside0.mk (HS2.out.drewN m3)
  have HB3 := Aside0.mk (blk_drewN HB2.out m3)
  generalize W2.drewN m3 = W3 at HS3 HB3 ⊢
  clear hs0 hs1 hs2 hx0 hx1 hx2 hx3 hx4 hx5 hx6 hfx0 hfx1 hfx2 hfx3 hfx4 hfx5 hfx6 HS2 HB2 HP3 hpt
  obtain ⟨hx0, hx1, hx2, hx3, hx4, hx5, hx6, hfx0, hfx1, hfx2, hfx3, hfx4, hfx5, hfx6⟩ := bx7 HS3.out.X
  have hk0 : ((kd : Int) == 0) = false := beq_eq_false_iff_ne.mpr (by omega)
  have hk1 : ((kd : Int) == 1) = false := beq_eq_false_iff_ne.mpr (by omega)
  have hi3z : (i : Int) < 3 := by omega
  have how := own_at HS3.out i hi3
  have HGP : Aside0 (PrIs W3 g p) := ⟨by
    obtain ⟨_, q, hq, hQ⟩ := HS3.out.who_at i g hgs hi3
    rw [List.getD_eq_getElem?_getD, hq] at H1
    have e2 : q = p := Option.some.inj H1
    rw [← e2]
    exact hQ⟩
  go_wp2_with (go_at_call 13; refine (tell_calls g p (ownB i) _ HGP.out).mono ?_)
  rw [HTL.out]
  rintro e WT ⟨rfl, hPT, hOT⟩
  have HS3b := Aside0.mk (HS3.out.setPr i g p1 (by rw [HS3.out.gs_at i hi3, hgs]) hPT hOT)
  clear hx0 hx1 hx2 hx3 hx4 hx5 hx6 hfx0 hfx1 hfx2 hfx3 hfx4 hfx5 hfx6 HS3 HGP how hPT hOT
  obtain ⟨x1, hx1e⟩ : ∃ x1, x1 = ({ x with who := x.who.set i (some p1) } : PxS) := ⟨_, rfl⟩
  have hn1 : x1.n = x.n := by rw [hx1e]
  have HX1 := Aside0.mk hx1e
  have HS3 : Aside0 (PxIs w WT B x1) := ⟨by rw [hx1e]; exact HS3b.out⟩
  have Ha : Aside0 (x1.acc[k]? = some a) := ⟨by rw [hx1e]; exact Ha.out⟩
  have Hb : Aside0 (x1.bb[i]? = some b) := ⟨by rw [hx1e]; exact Hb.out⟩
  have hkn1 : k < x1.n := by rw [hn1]; exact hkn
  have H11 : x1.who[i]? = some (some p1) := by rw [hx1e]; show (x.who.set i _)[i]? = _; rw [List.getElem?_set_self]; have := HS3b.out.lw; rw [show ({ x with who := x.who.set i (some p1) } : PxS).who = x.who.set i (some p1) from rfl, List.length_set] at this; omega
  have H12 := Aside0.mk H11
  have hn7b := HS3.out.n7
  clear hx1e HS3b H11 hn1 hn7
  have W3 := WT
  obtain ⟨hx0, hx1, hx2, hx3, hx4, hx5, hx6, hfx0, hfx1, hfx2, hfx3, hfx4, hfx5, hfx6⟩ := bx7 HS3.out.X
  go_wp2
  refine start_ (n := 22) (S := fun W => PxIs w W B x1) (ds := [20]) (bz 22 0) (by kernel_rfl) rfl rfl HS3.out.drew (fun hHeld => ?_); refine with_tabW tellQ.tab29 tellQ.bits29 (fun HT_ HW_ => ?_)
  refine pu_ 0 (some 152) (bz 22 1) HT_.out ?_
  refine pu_ 1 (some 153) (bz 22 3) HT_.out ?_
  refine pu_ 2 (some 154) (bz 22 7) HT_.out ?_
  refine pu_ 4 (some 156) (bz 22 23) HT_.out ?_
  refine pu_ 7 (some 159) (bz 22 151) HT_.out ?_
  refine pu_ 8 (some 160) (bz 22 407) HT_.out ?_
  refine pu_ 9 (some 161) (bz 22 919) HT_.out ?_
  refine pu_ 11 (some 163) (bz 22 2967) HT_.out ?_
  refine pu_ 14 (some 166) (bz 22 19351) HT_.out ?_
  refine take_ (i := 3) (N := (some 155)) (v := ?_) (a' := ?_) (bz 22 19359) rfl rfl (take_ofW HT_.out HW_.out (by kernel_rfl)) (fun _ _ _ h => h) (Or.inl ⟨by rfl, ?_⟩) hHeld ?_ ?_
  rotate_left
  · rintro w' s0
    obtain ⟨z0, z1, z2, z3, z4, z5, z6, _, _, _, _, _, _, _⟩ := bx7 s0.X
    go_simp
    with_reducible rfl
  rotate_left
  · simp only [Act.put, sl1, sl2, sl3, i64_w, i32_w]
    rfl
  refine pu_ 5 (some 157) (bz 22 19391) HT_.out ?_
  refine take_ (i := 6) (N := (some 158)) (v := ?_) (a' := ?_) (bz 22 19455) rfl rfl (take_ofW HT_.out HW_.out (by kernel_rfl)) (fun _ _ _ h => h) (Or.inl ⟨by rfl, ?_⟩) hHeld ?_ ?_
  rotate_left
  · rintro w' s0
    obtain ⟨z0, z1, z2, z3, z4⟩ := s0.acc_at k a Ha.out
    go_simp
    with_reducible rfl
  rotate_left
  · simp only [Act.put, sl1, sl2, sl3, i64_w, i32_w]
    rfl
  refine take_ (i := 10) (N := (some 162)) (v := ?_) (a' := ?_) (bz 22 20479) rfl rfl (take_ofW HT_.out HW_.out (by kernel_rfl)) (fun _ _ _ h => h) (Or.inl ⟨by rfl, ?_⟩) hHeld ?_ ?_
  rotate_left
  · rintro w' s0
    obtain ⟨z0, z1, z2, z3, z4, z5, z6, _, _, _, _, _, _, _⟩ := bx7 s0.X
    go_simp
    with_reducible rfl
  rotate_left
  · simp only [Act.put, sl1, sl2, sl3, i64_w, i32_w]
    rfl
  refine pu_ 12 (some 164) (bz 22 24575) HT_.out ?_
  refine take_ (i := 13) (N := (some 165)) (v := ?_) (a' := ?_) (bz 22 32767) rfl rfl (take_ofW HT_.out HW_.out (by kernel_rfl)) (fun _ _ _ h => h) (Or.inl ⟨by rfl, ?_⟩) hHeld ?_ ?_
  rotate_left
  · rintro w' s0
    obtain ⟨z0, z1⟩ := s0.bb_at i b Hb.out
    go_simp
    with_reducible rfl
  rotate_left
  · simp only [Act.put, sl1, sl2, sl3, i64_w, i32_w]
    rfl
  refine join_ (σ := Nat) 2 (bz 22 1048575) (fun s => [(167, .tuple #[.agg #[.int .i64 a2.a, .int .i64 a2.b, .int .i64 a2.c, .int .i64 a2.d, .string a2.s], .bool true]), (151, .tuple #[.agg #[.int .i64 a2.a, .int .i64 a2.b, .int .i64 a2.c, .int .i64 a2.d, .string a2.s], .bool true]), (168, .agg #[.int .i64 a2.a, .int .i64 a2.b, .int .i64 a2.c, .int .i64 a2.d, .string a2.s]), (169, .bool true), (16, .pointer (some ⟨s, 0, none⟩))]) (fun s W => PxIs w W B x1 ∧ W.heap[s]? = some (.cells #[.int .i64 0, .int .i64 0, .int .i64 0, .int .i64 0, .string ⟨#[]⟩] 34 (0, 0)) ∧ WT.heap.size ≤ s) ?_ ?_
  rotate_left
  · intro hJ
    refine two_ (i := 15) (j := 19) (Ni := (some 167)) (Nj := (some 16)) (bz 22 65535) (bz 22 557055) rfl rfl rfl rfl (by kernel_rfl) (by decide) (by decide) (fun K hK => ?_) (fun K hK => ?_)
    · skip
      refine goes_ Tryd.func36 (by kernel_rfl) rfl #[.agg #[.int .i64 a.a, .int .i64 a.b, .int .i64 a.c, .int .i64 a.d, .string a.s], .agg #[.int .i64 b.1, .int .i64 b.2], .string v] (by rfl) rfl rfl am ?_
      refine (HPR.out _).mono ?_
      rintro e w1 ⟨rfl, hb⟩
      refine ⟨_, rfl, ?_⟩
      have hH2 := hHeld.below hb
      refine hK.out _ _ hH2 (fun hHeld => ?_)
      clear hK K
      refine norm_ (a' := ?_) ?_ ?_
      rotate_left
      · show Act.put _ (some 167) _ = _
        simp only [Act.put, sl1, sl2, sl3, i64_w, i32_w]
        rfl
      refine pu_ 16 (some 151) (bz 22 131071) HT_.out ?_
      refine pu_ 17 (some 168) (bz 22 262143) HT_.out ?_
      refine pu_ 18 (some 169) (bz 22 524287) HT_.out ?_
      refine one_ (i := 19) (N := (some 16)) (bz 22 1048575) rfl rfl (one_of HT_.out (by kernel_rfl)) (by decide) (fun K hK => ?_)
      refine value_ (w1 := ?_) (v := ?_) (by rfl) rfl ?_ ?_
      rotate_left 2
      · go_simp
        constructor
        · rfl
        · rfl
      have hAL := heap_alloc_new
      refine hK.out _ _ (hHeld.alloc _) (fun hHeld => ?_)
      clear hK K
      refine norm_ (a' := ?_) ?_ ?_
      rotate_left
      · show Act.put _ (some 16) _ = _
        simp only [Act.put, sl1, sl2, sl3, i64_w, i32_w]
        rfl
      exact norm_ (by first | (simp only [putAll, Act.put, sl1, sl2, sl3, i64_w, i32_w]; done) | (simp only [putAll, Act.put, sl1, sl2, sl3, i64_w, i32_w]; rfl)) (hJ _ _ ⟨hHeld, heap_alloc_new _ _, hb.size⟩)
    · skip
      refine value_ (w1 := ?_) (v := ?_) (by rfl) rfl ?_ ?_
      rotate_left 2
      · go_simp
        constructor
        · rfl
        · rfl
      have hAL := heap_alloc_new
      refine hK.out _ _ (hHeld.alloc _) (fun hHeld => ?_)
      clear hK K
      refine norm_ (a' := ?_) ?_ ?_
      rotate_left
      · show Act.put _ (some 16) _ = _
        simp only [Act.put, sl1, sl2, sl3, i64_w, i32_w]
        rfl
      refine one_ (i := 15) (N := (some 167)) (bz 22 589823) rfl rfl (one_of HT_.out (by kernel_rfl)) (by decide) (fun K hK => ?_)
      refine goes_ Tryd.func36 (by kernel_rfl) rfl #[.agg #[.int .i64 a.a, .int .i64 a.b, .int .i64 a.c, .int .i64 a.d, .string a.s], .agg #[.int .i64 b.1, .int .i64 b.2], .string v] (by rfl) rfl rfl am ?_
      refine (HPR.out _).mono ?_
      rintro e w1 ⟨rfl, hb⟩
      refine ⟨_, rfl, ?_⟩
      have hH2 := hHeld.below hb
      refine hK.out _ _ hH2 (fun hHeld => ?_)
      clear hK K
      refine norm_ (a' := ?_) ?_ ?_
      rotate_left
      · show Act.put _ (some 167) _ = _
        simp only [Act.put, sl1, sl2, sl3, i64_w, i32_w]
        rfl
      refine pu_ 16 (some 151) (bz 22 655359) HT_.out ?_
      refine pu_ 17 (some 168) (bz 22 786431) HT_.out ?_
      refine pu_ 18 (some 169) (bz 22 1048575) HT_.out ?_
      exact norm_ (by first | (simp only [putAll, Act.put, sl1, sl2, sl3, i64_w, i32_w]; done) | (simp only [putAll, Act.put, sl1, sl2, sl3, i64_w, i32_w]; rfl)) (hJ _ _ ⟨hHeld, blk_below (blk_drew (heap_alloc_new _ _)) hb, Nat.le_refl _⟩)
  intro s W4 hF
  obtain ⟨hS4, hbx4, hs4⟩ := hF
  have HS4 := Aside0.mk hS4
  have HBX4 := Aside0.mk hbx4
  have hbm := HS3.out
  have hs1 : s ≠ B.gx := Nat.ne_of_gt (Nat.lt_of_lt_of_le (blk_lt hbm.X) hs4)
  have hs2 : s ≠ B.ga := Nat.ne_of_gt (Nat.lt_of_lt_of_le (blk_lt hbm.A) hs4)
  have hs3 : s ≠ B.gw := Nat.ne_of_gt (Nat.lt_of_lt_of_le (blk_lt hbm.Wh) hs4)
  have hs5 : s ≠ B.gb := Nat.ne_of_gt (Nat.lt_of_lt_of_le (blk_lt hbm.Bb) hs4)
  have hs6 : s ≠ B.go := Nat.ne_of_gt (Nat.lt_of_lt_of_le (blk_lt hbm.O) hs4)
  have hs9 : s ≠ B.gf := Nat.ne_of_gt (Nat.lt_of_lt_of_le (blk_lt hbm.F) hs4)
  have hs7 : ∀ k, B.vs.ownBlock = some k → ¬ (k = s) := fun k hk e => by have := Kd.R_lt hbm.S k hk; omega
  have hs8 : ∀ (i g : Nat), B.gs[i]? = some (some g) → ¬ (g = s) := fun i g hg e => by
    obtain ⟨_, q, _, hq⟩ := hbm.P i g hg
    have := hq.lt
    omega
  have hsw : w.heap.size ≤ s := Nat.le_trans hbm.Bl.size hs4
  have HAW : Aside0 (∀ W W' : World, PxIs w W B x1 → Only W W' (· = s) → PxIs w W' B x1) := ⟨fun W W' h ho => h.away ho (fun i hi => by rw [hi]; exact hsw) (Ne.symm hs1) (Ne.symm hs2) (Ne.symm hs3) (Ne.symm hs5) (Ne.symm hs6) hs7 (fun i g hg => hs8 i g hg) (Ne.symm hs9)⟩
  clear hS4 hbx4 hbm hs3 hs5 hs6 hs7 hs8 hs9 hs4 HS3
  obtain ⟨hv0, hv1, hv2, hv3, hv4, hfv0, hfv1, hfv2, hfv3, hfv4⟩ := bx5 HBX4.out
  refine norm_ (a' := ?_) ?_ ?_
  rotate_left
  · simp only [putAll, Act.put, sl1, sl2, sl3, i64_w, i32_w]
    rfl
  refine last_ (i := 20) (N := none) (bz 22 2097151) rfl rfl (one_of HT_.out (by kernel_rfl)) (by decide) (fun K hK => ?_)
  refine skip_ (w1 := ?_) (by rfl) rfl ?_ ?_
  rotate_left
  · go_simp
    rfl
  refine hK.out _ _ ?_
  clear hK K
  refine pu_ 21 (some 17) (bz 22 4194303) HT_.out ?_
  refine done_ (done_of HT_.out (by kernel_rfl)) ?_
  clear HT_ HW_ hHeld
  have HS5 := Aside0.mk (HAW.out _ _ HS4.out ((((((Only.refl W4 (· = s)).set_ 0 (.int .i64 a2.a)).set_ 1 (.int .i64 a2.b)).set_ 2 (.int .i64 a2.c)).set_ 3 (.int .i64 a2.d)).set_ 4 (.string a2.s)))
  have HBX5 : Aside0 ((((((W4.setCell ⟨s, 0, none⟩ (.int .i64 a2.a)).setCell ⟨s, 1, none⟩ (.int .i64 a2.b)).setCell ⟨s, 2, none⟩ (.int .i64 a2.c)).setCell ⟨s, 3, none⟩ (.int .i64 a2.d)).setCell ⟨s, 4, none⟩ (.string a2.s)).heap[s]? = some (.cells #[.int .i64 a2.a, .int .i64 a2.b, .int .i64 a2.c, .int .i64 a2.d, .string a2.s] 34 (0, 0))) := ⟨by rw [blk_set (blk_set (blk_set (blk_set (blk_set HBX4.out _ _) _ _) _ _) _ _) _ _]; rfl⟩
  generalize ((((W4.setCell ⟨s, 0, none⟩ (.int .i64 a2.a)).setCell ⟨s, 1, none⟩ (.int .i64 a2.b)).setCell ⟨s, 2, none⟩ (.int .i64 a2.c)).setCell ⟨s, 3, none⟩ (.int .i64 a2.d)).setCell ⟨s, 4, none⟩ (.string a2.s) = W5 at HS5 HBX5 ⊢
  clear hv0 hv1 hv2 hv3 hv4 hfv0 hfv1 hfv2 hfv3 hfv4 hx0 hx1 hx2 hx3 hx4 hx5 hx6 hfx0 hfx1 hfx2 hfx3 hfx4 hfx5 hfx6 HS4 HBX4 HB3
  have hsg : s ≠ B.ga := hs2
  have hga : B.ga ≠ s := Ne.symm hs2
  obtain ⟨hx0, hx1, hx2, hx3, hx4, hx5, hx6, hfx0, hfx1, hfx2, hfx3, hfx4, hfx5, hfx6⟩ := bx7 HS5.out.X
  obtain ⟨hv0, hv1, hv2, hv3, hv4, _, _, _, _, _⟩ := bx5 HBX5.out
  obtain ⟨ha0, ha1, ha2, ha3, ha4⟩ := HS5.out.acc_at k a Ha.out
  have hf0 := blk_frozen HS5.out.A (k * 5)
  have hf1 := blk_frozen HS5.out.A (k * 5 + 1)
  have hf2 := blk_frozen HS5.out.A (k * 5 + 2)
  have hf3 := blk_frozen HS5.out.A (k * 5 + 3)
  have hf4 := blk_frozen HS5.out.A (k * 5 + 4)
  go_wp2
  go_still_tail 6, (by kernel_rfl)
  change wpList _ _ _ _ _ W5.drew
  have HS6 := Aside0.mk ((HS5.out.setAcc k a a2 Ha.out).drew)
  have hgp2 : PrIs ((((((W5.setCell ⟨B.ga, k * 5, none⟩ (.int .i64 a2.a)).setCell ⟨B.ga, k * 5 + 1, none⟩ (.int .i64 a2.b)).setCell ⟨B.ga, k * 5 + 2, none⟩ (.int .i64 a2.c)).setCell ⟨B.ga, k * 5 + 3, none⟩ (.int .i64 a2.d)).setCell ⟨B.ga, k * 5 + 4, none⟩ (.string a2.s)).drew) g p1 := by
    obtain ⟨_, q, hq, hQ⟩ := HS6.out.who_at i g hgs hi3
    have hq2 : x1.who[i]? = some (some q) := hq
    rw [H12.out] at hq2
    have e2 : p1 = q := by injection hq2 with e3; injection e3
    rw [e2]
    exact hQ
  have HGP := Aside0.mk hgp2
  clear hgp2
  go_wp2_with (go_at_call 15; refine (taken_calls g p1 (k : Int) _ HGP.out).mono ?_)
  rintro e W7 ⟨rfl, hP7, hO7⟩
  obtain ⟨x2, hx2e⟩ : ∃ x2, x2 = ({ x1 with acc := x1.acc.set k a2, who := x1.who.set i (some (p1.taken (k : Int)).1) } : PxS) := ⟨_, rfl⟩
  have HS7 := Aside0.mk (HS6.out.setPr i g _ (by rw [HS6.out.gs_at i hi3, hgs]) hP7 hO7)
  have HSQ : Aside0 (PxIs w W7 B x2) := ⟨by rw [hx2e]; exact HS7.out⟩
  have HGQ0 := Aside0.mk hP7
  skip
  have HX2 := Aside0.mk hx2e
  clear hP7 hO7 HS7 HS6 HGP hx2e
  obtain ⟨p2, hp2⟩ : ∃ p2, (p1.taken (k : Int)).1 = p2 := ⟨_, rfl⟩
  rw [hp2] at HGQ0 HX2 hst
  have HGQ := HGQ0
  have HP2E := Aside0.mk hp2
  clear hp2 HGQ0
  go_wp2_with (go_at_call 20; refine (state_calls g p2 _ HGQ.out).mono ?_; rintro e w' ⟨rfl, rfl⟩)
  go_ret
  refine ⟨rfl, B, rfl, ?_⟩
  have hsf := HSQ.out
  rw [HX2.out, HX1.out] at hsf
  rw [HP2E.out]
  dsimp only at hsf
  rw [List.set_set] at hsf
  exact hsf

attribute [local go_sem high] eqA23
set_option maxHeartbeats 8000000 in
set_option maxRecDepth 100000 in
theorem step_tell4 (w W : World) (B : PxB) (x : PxS) (kind P A : Int) (hk : inB kind = true) (hP : inB P = true) (hA : inB A = true) (HS : Aside0 (PxIs w W B x)) (p p1 : PrS) (v : ByteArray) (a a2 : AcS) (b : Int × Int) (H0 : pickN kind 3 = 2) (H1 : x.who.getD (pickN P 3) none = some p) (Ha0 : x.acc[pickN A x.n]? = some a) (Hb0 : x.bb[pickN P 3]? = some b) (HTL : Aside0 (p.tell (ownB (pickN P 3)) = (p1, v, 0))) (HPR : Aside0 (∀ W, Calls Tryd.prog 36 #[.agg #[.int .i64 a.a, .int .i64 a.b, .int .i64 a.c, .int .i64 a.d, .string a.s], .agg #[.int .i64 b.1, .int .i64 b.2], .string v] W fun e w' => e = .returned (.tuple #[.agg #[.int .i64 a2.a, .int .i64 a2.b, .int .i64 a2.c, .int .i64 a2.d, .string a2.s], .bool true]) ∧ Below W.heap.size W w')) (hst0 : ((p1.taken (pickN A x.n : Int)).1.st == 2) = true) (HSL : Aside0 (x.said.length ≤ 1000)) :
    Calls Tryd.prog 23 #[.pointer (some ⟨B.gx, 0, none⟩), .agg #[.int .i64 kind, .int .i64 P, .int .i64 A]] W fun e W' => e = .returned (.bool true) ∧ ∃ B', B'.ke = B.ke ∧ PxIs w W' B' { x with acc := x.acc.set (pickN A x.n) a2, who := x.who.set (pickN P 3) (some (p1.taken (pickN A x.n : Int)).1), said := x.said ++ [(p1.taken (pickN A x.n : Int)).1.val] } := by
  obtain ⟨kd, hkd⟩ : ∃ kd, pickN kind 3 = kd := ⟨_, rfl⟩
  obtain ⟨i, hi⟩ : ∃ i, pickN P 3 = i := ⟨_, rfl⟩
  obtain ⟨k, hkk⟩ : ∃ k, pickN A x.n = k := ⟨_, rfl⟩
  have hi3 : i < 3 := by rw [← hi]; exact pickN_lt P 3 (by decide)
  have hkn : k < x.n := by rw [← hkk]; exact pickN_lt A x.n HS.out.n7.1
  have hk3 : kd < 3 := by rw [← hkd]; exact pickN_lt kind 3 (by decide)
  have hn7 := HS.out.n7
  have HP1 := Aside0.mk (fun W => pick_calls P 3 W hP (by decide) (by decide))
  have HP2 := Aside0.mk (fun W => pick_calls A x.n W hA hn7.1 (by omega))
  have HP3 := Aside0.mk (fun W => pick_calls kind 3 W hk (by decide) (by decide))
  rw [hi] at H1 Hb0 HTL ⊢
  simp only [hi] at HP1
  rw [hkk] at Ha0 hst0 ⊢
  have hst := hst0
  clear hst0
  simp only [hkk] at HP2
  simp only [hkd] at HP3 H0
  clear hk hP hA hi hkk hkd
  have Ha := Aside0.mk Ha0
  have Hb := Aside0.mk Hb0
  clear Ha0 Hb0
  have HSb := Aside0.mk (HS.out.alloc (.cells #[.int .i64 kind, .int .i64 P, .int .i64 A] 64))
  have hbx := heap_alloc_new W (.cells #[.int .i64 kind, .int .i64 P, .int .i64 A] 64)
  have hbox := HS.out.box rfl
  obtain ⟨b3, hb3⟩ : ∃ b3, W.heap.size = b3 := ⟨_, rfl⟩
  rw [hb3] at hbx hbox
  have HBX := Aside0.mk hbx
  have HBO := Aside0.mk hbox
  clear hbox hbx
  go_enter Tryd.func23, Tryd.ntmps23
  go_wp2
  try rw [hb3]
  clear hb3
  generalize W.alloc (.cells #[.int .i64 kind, .int .i64 P, .int .i64 A] 64) = W0 at HSb HBX ⊢
  obtain ⟨hs0, hs1, hs2, _, _, _⟩ := bx3 HBX.out
  obtain ⟨hx0, hx1, hx2, hx3, hx4, hx5, hx6, hfx0, hfx1, hfx2, hfx3, hfx4, hfx5, hfx6⟩ := bx7 HSb.out.X
  go_quiet (first | (go_at_call 10; exact Calls.quiet_of (HP1.out _)) | fail)
  have HS1 := Aside0.mk (HSb.out.drewN nq)
  have HB1 := Aside0.mk (blk_drewN HBX.out nq)
  generalize W0.drewN nq = W1 at HS1 HB1 ⊢
  clear hs0 hs1 hs2 hx0 hx1 hx2 hx3 hx4 hx5 hx6 hfx0 hfx1 hfx2 hfx3 hfx4 hfx5 hfx6 HSb HBX HP1
  obtain ⟨hs0, hs1, hs2, _, _, _⟩ := bx3 HB1.out
  obtain ⟨hx0, hx1, hx2, hx3, hx4, hx5, hx6, hfx0, hfx1, hfx2, hfx3, hfx4, hfx5, hfx6⟩ := bx7 HS1.out.X
  go_wp2
  go_quiet (first | (go_at_call 10; exact Calls.quiet_of (HP2.out _)) | fail)
  have HS2 := Aside0.mk (HS1.out.drewN nq)
  have HB2 := Aside0.mk (blk_drewN HB1.out nq)
  generalize W1.drewN nq = W2 at HS2 HB2 ⊢
  clear hs0 hs1 hs2 hx0 hx1 hx2 hx3 hx4 hx5 hx6 hfx0 hfx1 hfx2 hfx3 hfx4 hfx5 hfx6 HS1 HB1 HP2
  obtain ⟨hs0, hs1, hs2, _, _, _⟩ := bx3 HB2.out
  obtain ⟨hx0, hx1, hx2, hx3, hx4, hx5, hx6, hfx0, hfx1, hfx2, hfx3, hfx4, hfx5, hfx6⟩ := bx7 HS2.out.X
  have hpt := HS2.out.ptr_at i hi3
  have hgs : ∃ g, B.gs.getD i none = some g := by
    cases hg : B.gs.getD i none with
    | none =>
      have := HS2.out.Pn i (by rw [HS2.out.gs_at i hi3, hg])
      rw [List.getD_eq_getElem?_getD, this] at H1
      cases H1
    | some g => exact ⟨g, rfl⟩
  obtain ⟨g, hgs⟩ := hgs
  have hpt2 : W2.cell? ⟨B.gw, i, none⟩ = some (.pointer (some ⟨g, 0, none⟩)) := by rw [hgs] at hpt; exact hpt
  clear hpt
  have hpt := hpt2
  clear hpt2
  go_wp2_with (go_at_call 10; refine (HP3.out _).mono ?_)
  rintro e W3 ⟨rfl, m3, rfl⟩
  have HS3 := Aside0.mk (HS2.out.drewN m3)
  have HB3 := Aside0.mk (blk_drewN HB2.out m3)
  generalize W2.drewN m3 = W3 at HS3 HB3 ⊢
  clear hs0 hs1 hs2 hx0 hx1 hx2 hx3 hx4 hx5 hx6 hfx0 hfx1 hfx2 hfx3 hfx4 hfx5 hfx6 HS2 HB2 HP3 hpt
  obtain ⟨hx0, hx1, hx2, hx3, hx4, hx5, hx6, hfx0, hfx1, hfx2, hfx3, hfx4, hfx5, hfx6⟩ := bx7 HS3.out.X
  have hk0 : ((kd : Int) == 0) = false := beq_eq_false_iff_ne.mpr (by omega)
  have hk1 : ((kd : Int) == 1) = false := beq_eq_false_iff_ne.mpr (by omega)
  have hi3z : (i : Int) < 3 := by omega
  have how := own_at HS3.out i hi3
  have HGP : Aside0 (PrIs W3 g p) := ⟨by
    obtain ⟨_, q, hq, hQ⟩ := HS3.out.who_at i g hgs hi3
    rw [List.getD_eq_getElem?_getD, hq] at H1
    have e2 : q = p := Option.some.inj H1
    rw [← e2]
    exact hQ⟩
  go_wp2_with (go_at_call 13; refine (tell_calls g p (ownB i) _ HGP.out).mono ?_)
  rw [HTL.out]
  rintro e WT ⟨rfl, hPT, hOT⟩
  have HS3b := Aside0.mk (HS3.out.setPr i g p1 (by rw [HS3.out.gs_at i hi3, hgs]) hPT hOT)
  clear hx0 hx1 hx2 hx3 hx4 hx5 hx6 hfx0 hfx1 hfx2 hfx3 hfx4 hfx5 hfx6 HS3 HGP how hPT hOT
  obtain ⟨x1, hx1e⟩ : ∃ x1, x1 = ({ x with who := x.who.set i (some p1) } : PxS) := ⟨_, rfl⟩
  have hn1 : x1.n = x.n := by rw [hx1e]
  have HX1 := Aside0.mk hx1e
  have HS3 : Aside0 (PxIs w WT B x1) := ⟨by rw [hx1e]; exact HS3b.out⟩
  have Ha : Aside0 (x1.acc[k]? = some a) := ⟨by rw [hx1e]; exact Ha.out⟩
  have Hb : Aside0 (x1.bb[i]? = some b) := ⟨by rw [hx1e]; exact Hb.out⟩
  have hkn1 : k < x1.n := by rw [hn1]; exact hkn
  have H11 : x1.who[i]? = some (some p1) := by rw [hx1e]; show (x.who.set i _)[i]? = _; rw [List.getElem?_set_self]; have := HS3b.out.lw; rw [show ({ x with who := x.who.set i (some p1) } : PxS).who = x.who.set i (some p1) from rfl, List.length_set] at this; omega
  have H12 := Aside0.mk H11
  have hn7b := HS3.out.n7
  have HSL : Aside0 (x1.said.length ≤ 1000) := ⟨by rw [hx1e]; exact HSL.out⟩
  clear hx1e HS3b H11 hn1 hn7
  have W3 := WT
  obtain ⟨hx0, hx1, hx2, hx3, hx4, hx5, hx6, hfx0, hfx1, hfx2, hfx3, hfx4, hfx5, hfx6⟩ := bx7 HS3.out.X
  go_wp2
  refine start_ (n := 22) (S := fun W => PxIs w W B x1) (ds := [20]) (bz 22 0) (by kernel_rfl) rfl rfl HS3.out.drew (fun hHeld => ?_); refine with_tabW tellQ.tab29 tellQ.bits29 (fun HT_ HW_ => ?_)
  refine pu_ 0 (some 152) (bz 22 1) HT_.out ?_
  refine pu_ 1 (some 153) (bz 22 3) HT_.out ?_
  refine pu_ 2 (some 154) (bz 22 7) HT_.out ?_
  refine pu_ 4 (some 156) (bz 22 23) HT_.out ?_
  refine pu_ 7 (some 159) (bz 22 151) HT_.out ?_
  refine pu_ 8 (some 160) (bz 22 407) HT_.out ?_
  refine pu_ 9 (some 161) (bz 22 919) HT_.out ?_
  refine pu_ 11 (some 163) (bz 22 2967) HT_.out ?_
  refine pu_ 14 (some 166) (bz 22 19351) HT_.out ?_
  refine take_ (i := 3) (N := (some 155)) (v := ?_) (a' := ?_) (bz 22 19359) rfl rfl (take_ofW HT_.out HW_.out (by kernel_rfl)) (fun _ _ _ h => h) (Or.inl ⟨by rfl, ?_⟩) hHeld ?_ ?_
  rotate_left
  · rintro w' s0
    obtain ⟨z0, z1, z2, z3, z4, z5, z6, _, _, _, _, _, _, _⟩ := bx7 s0.X
    go_simp
    with_reducible rfl
  rotate_left
  · simp only [Act.put, sl1, sl2, sl3, i64_w, i32_w]
    rfl
  refine pu_ 5 (some 157) (bz 22 19391) HT_.out ?_
  refine take_ (i := 6) (N := (some 158)) (v := ?_) (a' := ?_) (bz 22 19455) rfl rfl (take_ofW HT_.out HW_.out (by kernel_rfl)) (fun _ _ _ h => h) (Or.inl ⟨by rfl, ?_⟩) hHeld ?_ ?_
  rotate_left
  · rintro w' s0
    obtain ⟨z0, z1, z2, z3, z4⟩ := s0.acc_at k a Ha.out
    go_simp
    with_reducible rfl
  rotate_left
  · simp only [Act.put, sl1, sl2, sl3, i64_w, i32_w]
    rfl
  refine take_ (i := 10) (N := (some 162)) (v := ?_) (a' := ?_) (bz 22 20479) rfl rfl (take_ofW HT_.out HW_.out (by kernel_rfl)) (fun _ _ _ h => h) (Or.inl ⟨by rfl, ?_⟩) hHeld ?_ ?_
  rotate_left
  · rintro w' s0
    obtain ⟨z0, z1, z2, z3, z4, z5, z6, _, _, _, _, _, _, _⟩ := bx7 s0.X
    go_simp
    with_reducible rfl
  rotate_left
  · simp only [Act.put, sl1, sl2, sl3, i64_w, i32_w]
    rfl
  refine pu_ 12 (some 164) (bz 22 24575) HT_.out ?_
  refine take_ (i := 13) (N := (some 165)) (v := ?_) (a' := ?_) (bz 22 32767) rfl rfl (take_ofW HT_.out HW_.out (by kernel_rfl)) (fun _ _ _ h => h) (Or.inl ⟨by rfl, ?_⟩) hHeld ?_ ?_
  rotate_left
  · rintro w' s0
    obtain ⟨z0, z1⟩ := s0.bb_at i b Hb.out
    go_simp
    with_reducible rfl
  rotate_left
  · simp only [Act.put, sl1, sl2, sl3, i64_w, i32_w]
    rfl
  refine join_ (σ := Nat) 2 (bz 22 1048575) (fun s => [(167, .tuple #[.agg #[.int .i64 a2.a, .int .i64 a2.b, .int .i64 a2.c, .int .i64 a2.d, .string a2.s], .bool true]), (151, .tuple #[.agg #[.int .i64 a2.a, .int .i64 a2.b, .int .i64 a2.c, .int .i64 a2.d, .string a2.s], .bool true]), (168, .agg #[.int .i64 a2.a, .int .i64 a2.b, .int .i64 a2.c, .int .i64 a2.d, .string a2.s]), (169, .bool true), (16, .pointer (some ⟨s, 0, none⟩))]) (fun s W => PxIs w W B x1 ∧ W.heap[s]? = some (.cells #[.int .i64 0, .int .i64 0, .int .i64 0, .int .i64 0, .string ⟨#[]⟩] 34 (0, 0)) ∧ WT.heap.size ≤ s) ?_ ?_
  rotate_left
  · intro hJ
    refine two_ (i := 15) (j := 19) (Ni := (some 167)) (Nj := (some 16)) (bz 22 65535) (bz 22 557055) rfl rfl rfl rfl (by kernel_rfl) (by decide) (by decide) (fun K hK => ?_) (fun K hK => ?_)
    · skip
      refine goes_ Tryd.func36 (by kernel_rfl) rfl #[.agg #[.int .i64 a.a, .int .i64 a.b, .int .i64 a.c, .int .i64 a.d, .string a.s], .agg #[.int .i64 b.1, .int .i64 b.2], .string v] (by rfl) rfl rfl am ?_
      refine (HPR.out _).mono ?_
      rintro e w1 ⟨rfl, hb⟩
      refine ⟨_, rfl, ?_⟩
      have hH2 := hHeld.below hb
      refine hK.out _ _ hH2 (fun hHeld => ?_)
      clear hK K
      refine norm_ (a' := ?_) ?_ ?_
      rotate_left
      · show Act.put _ (some 167) _ = _
        simp only [Act.put, sl1, sl2, sl3, i64_w, i32_w]
        rfl
      refine pu_ 16 (some 151) (bz 22 131071) HT_.out ?_
      refine pu_ 17 (some 168) (bz 22 262143) HT_.out ?_
      refine pu_ 18 (some 169) (bz 22 524287) HT_.out ?_
      refine one_ (i := 19) (N := (some 16)) (bz 22 1048575) rfl rfl (one_of HT_.out (by kernel_rfl)) (by decide) (fun K hK => ?_)
      refine value_ (w1 := ?_) (v := ?_) (by rfl) rfl ?_ ?_
      rotate_left 2
      · go_simp
        constructor
        · rfl
        · rfl
      have hAL := heap_alloc_new
      refine hK.out _ _ (hHeld.alloc _) (fun hHeld => ?_)
      clear hK K
      refine norm_ (a' := ?_) ?_ ?_
      rotate_left
      · show Act.put _ (some 16) _ = _
        simp only [Act.put, sl1, sl2, sl3, i64_w, i32_w]
        rfl
      exact norm_ (by first | (simp only [putAll, Act.put, sl1, sl2, sl3, i64_w, i32_w]; done) | (simp only [putAll, Act.put, sl1, sl2, sl3, i64_w, i32_w]; rfl)) (hJ _ _ ⟨hHeld, heap_alloc_new _ _, hb.size⟩)
    · skip
      refine value_ (w1 := ?_) (v := ?_) (by rfl) rfl ?_ ?_
      rotate_left 2
      · go_simp
        constructor
        · rfl
        · rfl
      have hAL := heap_alloc_new
      refine hK.out _ _ (hHeld.alloc _) (fun hHeld => ?_)
      clear hK K
      refine norm_ (a' := ?_) ?_ ?_
      rotate_left
      · show Act.put _ (some 16) _ = _
        simp only [Act.put, sl1, sl2, sl3, i64_w, i32_w]
        rfl
      refine one_ (i := 15) (N := (some 167)) (bz 22 589823) rfl rfl (one_of HT_.out (by kernel_rfl)) (by decide) (fun K hK => ?_)
      refine goes_ Tryd.func36 (by kernel_rfl) rfl #[.agg #[.int .i64 a.a, .int .i64 a.b, .int .i64 a.c, .int .i64 a.d, .string a.s], .agg #[.int .i64 b.1, .int .i64 b.2], .string v] (by rfl) rfl rfl am ?_
      refine (HPR.out _).mono ?_
      rintro e w1 ⟨rfl, hb⟩
      refine ⟨_, rfl, ?_⟩
      have hH2 := hHeld.below hb
      refine hK.out _ _ hH2 (fun hHeld => ?_)
      clear hK K
      refine norm_ (a' := ?_) ?_ ?_
      rotate_left
      · show Act.put _ (some 167) _ = _
        simp only [Act.put, sl1, sl2, sl3, i64_w, i32_w]
        rfl
      refine pu_ 16 (some 151) (bz 22 655359) HT_.out ?_
      refine pu_ 17 (some 168) (bz 22 786431) HT_.out ?_
      refine pu_ 18 (some 169) (bz 22 1048575) HT_.out ?_
      exact norm_ (by first | (simp only [putAll, Act.put, sl1, sl2, sl3, i64_w, i32_w]; done) | (simp only [putAll, Act.put, sl1, sl2, sl3, i64_w, i32_w]; rfl)) (hJ _ _ ⟨hHeld, blk_below (blk_drew (heap_alloc_new _ _)) hb, Nat.le_refl _⟩)
  intro s W4 hF
  obtain ⟨hS4, hbx4, hs4⟩ := hF
  have HS4 := Aside0.mk hS4
  have HBX4 := Aside0.mk hbx4
  have hbm := HS3.out
  have hs1 : s ≠ B.gx := Nat.ne_of_gt (Nat.lt_of_lt_of_le (blk_lt hbm.X) hs4)
  have hs2 : s ≠ B.ga := Nat.ne_of_gt (Nat.lt_of_lt_of_le (blk_lt hbm.A) hs4)
  have hs3 : s ≠ B.gw := Nat.ne_of_gt (Nat.lt_of_lt_of_le (blk_lt hbm.Wh) hs4)
  have hs5 : s ≠ B.gb := Nat.ne_of_gt (Nat.lt_of_lt_of_le (blk_lt hbm.Bb) hs4)
  have hs6 : s ≠ B.go := Nat.ne_of_gt (Nat.lt_of_lt_of_le (blk_lt hbm.O) hs4)
  have hs9 : s ≠ B.gf := Nat.ne_of_gt (Nat.lt_of_lt_of_le (blk_lt hbm.F) hs4)
  have hs7 : ∀ k, B.vs.ownBlock = some k → ¬ (k = s) := fun k hk e => by have := Kd.R_lt hbm.S k hk; omega
  have hs8 : ∀ (i g : Nat), B.gs[i]? = some (some g) → ¬ (g = s) := fun i g hg e => by
    obtain ⟨_, q, _, hq⟩ := hbm.P i g hg
    have := hq.lt
    omega
  have hsw : w.heap.size ≤ s := Nat.le_trans hbm.Bl.size hs4
  have HAW : Aside0 (∀ W W' : World, PxIs w W B x1 → Only W W' (· = s) → PxIs w W' B x1) := ⟨fun W W' h ho => h.away ho (fun i hi => by rw [hi]; exact hsw) (Ne.symm hs1) (Ne.symm hs2) (Ne.symm hs3) (Ne.symm hs5) (Ne.symm hs6) hs7 (fun i g hg => hs8 i g hg) (Ne.symm hs9)⟩
  clear hS4 hbx4 hbm hs3 hs5 hs6 hs7 hs8 hs9 hs4 HS3
  obtain ⟨hv0, hv1, hv2, hv3, hv4, hfv0, hfv1, hfv2, hfv3, hfv4⟩ := bx5 HBX4.out
  refine norm_ (a' := ?_) ?_ ?_
  rotate_left
  · simp only [putAll, Act.put, sl1, sl2, sl3, i64_w, i32_w]
    rfl
  refine last_ (i := 20) (N := none) (bz 22 2097151) rfl rfl (one_of HT_.out (by kernel_rfl)) (by decide) (fun K hK => ?_)
  refine skip_ (w1 := ?_) (by rfl) rfl ?_ ?_
  rotate_left
  · go_simp
    rfl
  refine hK.out _ _ ?_
  clear hK K
  refine pu_ 21 (some 17) (bz 22 4194303) HT_.out ?_
  refine done_ (done_of HT_.out (by kernel_rfl)) ?_
  clear HT_ HW_ hHeld
  have HS5 := Aside0.mk (HAW.out _ _ HS4.out ((((((Only.refl W4 (· = s)).set_ 0 (.int .i64 a2.a)).set_ 1 (.int .i64 a2.b)).set_ 2 (.int .i64 a2.c)).set_ 3 (.int .i64 a2.d)).set_ 4 (.string a2.s)))
  have HBX5 : Aside0 ((((((W4.setCell ⟨s, 0, none⟩ (.int .i64 a2.a)).setCell ⟨s, 1, none⟩ (.int .i64 a2.b)).setCell ⟨s, 2, none⟩ (.int .i64 a2.c)).setCell ⟨s, 3, none⟩ (.int .i64 a2.d)).setCell ⟨s, 4, none⟩ (.string a2.s)).heap[s]? = some (.cells #[.int .i64 a2.a, .int .i64 a2.b, .int .i64 a2.c, .int .i64 a2.d, .string a2.s] 34 (0, 0))) := ⟨by rw [blk_set (blk_set (blk_set (blk_set (blk_set HBX4.out _ _) _ _) _ _) _ _) _ _]; rfl⟩
  generalize ((((W4.setCell ⟨s, 0, none⟩ (.int .i64 a2.a)).setCell ⟨s, 1, none⟩ (.int .i64 a2.b)).setCell ⟨s, 2, none⟩ (.int .i64 a2.c)).setCell ⟨s, 3, none⟩ (.int .i64 a2.d)).setCell ⟨s, 4, none⟩ (.string a2.s) = W5 at HS5 HBX5 ⊢
  clear hv0 hv1 hv2 hv3 hv4 hfv0 hfv1 hfv2 hfv3 hfv4 hx0 hx1 hx2 hx3 hx4 hx5 hx6 hfx0 hfx1 hfx2 hfx3 hfx4 hfx5 hfx6 HS4 HBX4 HB3
  have hsg : s ≠ B.ga := hs2
  have hga : B.ga ≠ s := Ne.symm hs2
  obtain ⟨hx0, hx1, hx2, hx3, hx4, hx5, hx6, hfx0, hfx1, hfx2, hfx3, hfx4, hfx5, hfx6⟩ := bx7 HS5.out.X
  obtain ⟨hv0, hv1, hv2, hv3, hv4, _, _, _, _, _⟩ := bx5 HBX5.out
  obtain ⟨ha0, ha1, ha2, ha3, ha4⟩ := HS5.out.acc_at k a Ha.out
  have hf0 := blk_frozen HS5.out.A (k * 5)
  have hf1 := blk_frozen HS5.out.A (k * 5 + 1)
  have hf2 := blk_frozen HS5.out.A (k * 5 + 2)
  have hf3 := blk_frozen HS5.out.A (k * 5 + 3)
  have hf4 := blk_frozen HS5.out.A (k * 5 + 4)
  go_wp2
  go_still_tail 6, (by kernel_rfl)
  change wpList _ _ _ _ _ W5.drew
  have HS6 := Aside0.mk ((HS5.out.setAcc k a a2 Ha.out).drew)
  have hgp2 : PrIs ((((((W5.setCell ⟨B.ga, k * 5, none⟩ (.int .i64 a2.a)).setCell ⟨B.ga, k * 5 + 1, none⟩ (.int .i64 a2.b)).setCell ⟨B.ga, k * 5 + 2, none⟩ (.int .i64 a2.c)).setCell ⟨B.ga, k * 5 + 3, none⟩ (.int .i64 a2.d)).setCell ⟨B.ga, k * 5 + 4, none⟩ (.string a2.s)).drew) g p1 := by
    obtain ⟨_, q, hq, hQ⟩ := HS6.out.who_at i g hgs hi3
    have hq2 : x1.who[i]? = some (some q) := hq
    rw [H12.out] at hq2
    have e2 : p1 = q := by injection hq2 with e3; injection e3
    rw [e2]
    exact hQ
  have HGP := Aside0.mk hgp2
  clear hgp2
  go_wp2_with (go_at_call 15; refine (taken_calls g p1 (k : Int) _ HGP.out).mono ?_)
  rintro e W7 ⟨rfl, hP7, hO7⟩
  obtain ⟨x2, hx2e⟩ : ∃ x2, x2 = ({ x1 with acc := x1.acc.set k a2, who := x1.who.set i (some (p1.taken (k : Int)).1) } : PxS) := ⟨_, rfl⟩
  have HS7 := Aside0.mk (HS6.out.setPr i g _ (by rw [HS6.out.gs_at i hi3, hgs]) hP7 hO7)
  have HSQ : Aside0 (PxIs w W7 B x2) := ⟨by rw [hx2e]; exact HS7.out⟩
  have HGQ0 := Aside0.mk hP7
  have HSL : Aside0 (x2.said.length ≤ 1000) := ⟨by rw [hx2e]; exact HSL.out⟩
  have HX2 := Aside0.mk hx2e
  clear hP7 hO7 HS7 HS6 HGP hx2e
  obtain ⟨p2, hp2⟩ : ∃ p2, (p1.taken (k : Int)).1 = p2 := ⟨_, rfl⟩
  rw [hp2] at HGQ0 HX2 hst
  have HGQ := HGQ0
  have HP2E := Aside0.mk hp2
  clear hp2 HGQ0
  go_wp2_with (go_at_call 20; refine (state_calls g p2 _ HGQ.out).mono ?_)
  rintro e w' ⟨rfl, rfl⟩
  obtain ⟨hx0, hx1, hx2, hx3, hx4, hx5, hx6, hfx0, hfx1, hfx2, hfx3, hfx4, hfx5, hfx6⟩ := bx7 HSQ.out.X
  go_wp2
  refine start_ (n := 12) (S := fun W => PxIs w W B x2 ∧ PrIs W g p2) (ds := [8, 11]) (bz 12 0) (by kernel_rfl) rfl rfl ⟨HSQ.out.drew, HGQ.out.drew⟩ (fun hHeld => ?_); refine with_tabW sayR.tab34 sayR.bits34 (fun HT_ HW_ => ?_)
  generalize World.drew _ = W8 at hHeld ⊢
  refine pu_ 0 (some 184) (bz 12 1) HT_.out ?_
  refine pu_ 1 (some 185) (bz 12 3) HT_.out ?_
  refine pu_ 2 (some 186) (bz 12 7) HT_.out ?_
  refine pu_ 3 (some 187) (bz 12 15) HT_.out ?_
  refine pu_ 5 (some 189) (bz 12 47) HT_.out ?_
  refine take_ (i := 4) (N := (some 188)) (v := ?_) (a' := ?_) (bz 12 63) rfl rfl (take_ofW HT_.out HW_.out (by kernel_rfl)) (fun _ _ _ h => h) (Or.inl ⟨by rfl, ?_⟩) hHeld ?_ ?_
  rotate_left
  · rintro w' ⟨s0, _⟩
    obtain ⟨z0, z1, z2, z3, z4, z5, z6, _, _, _, _, _, _, _⟩ := bx7 s0.X
    go_simp
    with_reducible rfl
  rotate_left
  · simp only [Act.put, sl1, sl2, sl3, i64_w, i32_w]
    rfl
  refine one_ (i := 6) (N := (some 190)) (bz 12 127) rfl rfl (one_of HT_.out (by kernel_rfl)) (by decide) (fun K hK => ?_)
  refine goes_ Tryd.func21 (by kernel_rfl) rfl #[.pointer (some ⟨g, 0, none⟩)] (by rfl) rfl rfl am ?_
  refine (value_calls g p2 _ hHeld.2).mono ?_
  rintro e w'' ⟨rfl, rfl⟩
  refine ⟨_, rfl, ?_⟩
  refine hK.out _ _ hHeld (fun hHeld => ?_)
  clear hK K
  refine norm_ (a' := ?_) ?_ ?_
  rotate_left
  · show Act.put _ (some 190) _ = _
    simp only [Act.put, sl1, sl2, sl3, i64_w, i32_w]
    rfl
  refine one_ (i := 7) (N := (some 191)) (bz 12 255) rfl rfl (one_of HT_.out (by kernel_rfl)) (by decide) (fun K hK => ?_)
  refine value_ (w1 := ?_) (v := ?_) (by rfl) rfl ?_ ?_
  rotate_left 2
  · go_simp
    constructor
    · rfl
    · rfl
  have HSL2 := Aside0.mk hHeld
  refine hK.out _ _ ⟨hHeld.1.alloc _, hHeld.2.below (below_alloc (Below.refl _ _) _)⟩ (fun hHeld => ?_)
  clear hK K
  refine norm_ (a' := ?_) ?_ ?_
  rotate_left
  · show Act.put _ (some 191) _ = _
    simp only [Act.put, sl1, sl2, sl3, i64_w, i32_w]
    rfl
  refine last_ (i := 8) (N := (some 192)) (bz 12 511) rfl rfl (one_of HT_.out (by kernel_rfl)) (by decide) (fun K hK => ?_)
  have hgol := blk_lt HSL2.out.1.O
  have hgof := blk_lt HSL2.out.1.F
  refine Kd.R_append_step Kd.string (w0 := w) w.heap.size (by rfl) (.tmp 188) (.tmp 191) 58 9 (.string ⟨#[]⟩) 16 rfl Tryd.underlying58 infoStr rfl (by decide) (by omega) B.vs x2.said p2.val [.string p2.val] (fun k => k ≠ B.go ∧ k ≠ B.gf) (fun _ => False) rfl rfl ?aP (fun _ hk => hk.elim) ?aF ?aO ?aB ?aS ?aL ?_
  case aP => exact rfl
  case aF => exact (fun k hk => ⟨fun e => by omega, fun e => by omega⟩)
  case aO => exact HSL2.out.1.S
  case aB => exact HSL2.out.1.Bl
  case aS => exact HSL2.out.1.Bl.size
  case aL => have := HSL.out; omega
  intro v1 w6 ho hb hg hat
  obtain ⟨Av, cv, ev⟩ := Kd.R_slice ho
  subst ev
  have hXn := blk_grown HSL2.out.1.X hg (fun e => HSL2.out.1.neT HSL2.out.1.X (by decide) e.symm)
  have HSF := Aside0.mk (HSL2.out.1.say _ p2.val ho hg)
  refine hK.out _ _ ?_
  clear hK K
  refine norm_ (a' := ?_) ?_ ?_
  rotate_left
  · show Act.put _ (some 192) _ = _
    simp only [Act.put, sl1, sl2, sl3, i64_w, i32_w]
    rfl
  obtain ⟨hn0, hn1, hn2, hn3, hn4, hn5, hn6, hfn0, hfn1, hfn2, hfn3, hfn4, hfn5, hfn6⟩ := bx7 hXn
  refine pu_ 9 (some 193) (bz 12 1023) HT_.out ?_
  refine pu_ 10 (some 194) (bz 12 2047) HT_.out ?_
  refine last_ (i := 11) (N := none) (bz 12 4095) rfl rfl (one_of HT_.out (by kernel_rfl)) (by decide) (fun K hK => ?_)
  refine skip_ (w1 := ?_) (by rfl) rfl ?_ ?_
  rotate_left
  · go_simp
    rfl
  refine hK.out _ _ ?_
  clear hK K
  refine done_ (done_of HT_.out (by kernel_rfl)) ?_
  clear HT_ HW_
  go_wp2
  go_ret
  have hsf := HSF.out
  rw [List.length_append, List.length_singleton] at hsf
  refine ⟨rfl, ?_⟩
  rw [HP2E.out]
  have HXX := HX2.out
  rw [HX1.out] at HXX
  dsimp only at HXX
  rw [List.set_set] at HXX
  obtain rfl := HXX
  refine ⟨_, ?_, hsf⟩
  rfl

end Go.Proofs.YtnmcknfkmelnbaaDoor.P
