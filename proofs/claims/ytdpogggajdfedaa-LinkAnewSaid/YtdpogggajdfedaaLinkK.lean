import Derived.Test.YtdpogggajdfedaaLinkJ
import Derived.Outline
import Derived.Laws.BitsAllLaws
import Derived.WalkSpells
import Derived.StillTailTactics
namespace Go.Proofs.Ytdpogggajdfedaa.P
open Go.RowKit Go.Proofs.YtdpogggajdfedaaW.PrintWords Go.Proofs.YtdpogggajdfedaaW.PrintLast Go.Proofs.YtdpogggajdfedaaW.PrintMore
attribute [local go_sem] max2_int min2_int max_two min_two max_three min_three max_four min_four
set_option linter.unusedVariables false
set_option linter.unusedSimpArgs false
attribute [local go_sem high] eqA46
theorem rdOf_prefix {xs ys : List ByteArray} (h : xs <+: ys) (j : Nat) (hj : j < xs.length) : rdOf ByteArray.empty xs (j : Int) = rdOf ByteArray.empty ys (j : Int) := by
  obtain ⟨r, hr⟩ := h
  subst hr
  unfold rdOf
  rw [show ((j : Int)).toNat = j from rfl]
  simp [List.getD_eq_getElem?_getD, List.getElem?_append_left hj]
/-- What a Take that does not start anew answers. -/
def TakeP (w : World) (b n0 g : Nat) (V : Value) (l' : LkS) (bs : List ByteArray) (n : Nat) (e : Ending) (w' : World) : Prop :=
  ∃ A c, e = .returned (.tuple #[.slice A n c, .bool false]) ∧ Kd.string.R 9 w' n0 (fun _ => True) (.slice A n c) bs ∧ ∃ V', LkIs w' b g l' V' ∧ LkOnly w w' g V V'
set_option maxHeartbeats 16000000 in
set_option maxRecDepth 100000 in
theorem turn_come (w W : World) (B : PB) (x : PaM) (f0 f1 f2 : Int) (f3 : ByteArray) (i0 : inB f0 = true) (i1 : inB f1 = true) (i2 : inB f2 = true) (H : Aside0 (PairIs w W B x)) (hx : Aside0 x.Ok) (Y : PaM) (HY : Aside0 (x.turn ⟨f0, f1, f2, f3⟩ = Y)) (hk : pickN f0 6 = 3) (hn : x.way (pickN f1 2) ≠ []) (hfine : x.fine ⟨f0, f1, f2, f3⟩) :
    Calls Try.prog 11 #[.pointer (some ⟨B.gx, 0, none⟩), .agg #[.int .i64 f0, .int .i64 f1, .int .i64 f2, .string f3]] W (TurnPost w W B Y) := by
  obtain ⟨pw, hpw⟩ : ∃ pw, pickN f1 2 = pw := ⟨_, rfl⟩
  obtain ⟨kd, hkd⟩ : ∃ kd, pickN f0 6 = kd := ⟨_, rfl⟩
  have hw2 : pw < 2 := by rw [← hpw]; exact pickN_lt f1 2 (by decide)
  have hk6 : kd < 6 := by rw [← hkd]; exact pickN_lt f0 6 (by decide)
  obtain ⟨po, hpo⟩ : ∃ po, 1 - pw = po := ⟨_, rfl⟩
  have ho2 : po < 2 := by omega
  have HPO := Aside0.mk hpo
  have HP1 := Aside0.mk (fun W => pick_calls f1 2 W i1 (by decide) (by decide))
  have HP0 := Aside0.mk (fun W => pick_calls f0 6 W i0 (by decide) (by decide))
  have HP0b := Aside0.mk (fun W => pick_calls f0 6 W i0 (by decide) (by decide))
  simp only [hpw] at HP1
  simp only [hkd] at HP0 HP0b
  have HKD := Aside0.mk hkd
  have HPW := Aside0.mk hpw
  have hpoI : (1 : Int) - (pw : Int) = (po : Int) := by omega
  rw [hkd] at hk
  rw [hpw] at hn
  obtain ⟨n, hnn⟩ : ∃ n, (x.way pw).length = n := ⟨_, rfl⟩
  have hn0 : 0 < n := by rw [← hnn]; exact List.length_pos_iff.mpr hn
  have hn1 : n ≤ 100000 := by rw [← hnn]; exact hx.out.way pw hw2
  obtain ⟨pi, hpi⟩ : ∃ pi, pickN f2 n = pi := ⟨_, rfl⟩
  have hpn : pi < n := by rw [← hpi]; exact pickN_lt f2 n hn0
  have HP2 := Aside0.mk (fun W => pick_calls f2 n W i2 hn0 (by omega))
  simp only [hpi] at HP2
  have HNN := Aside0.mk hnn
  have HE : Aside0 (Y = x.come pw 3 pi) := ⟨by rw [← HY.out]; unfold PaM.turn; dsimp only; rw [hkd, hpw, if_neg (by omega), if_neg (by omega), if_neg (by omega), if_neg hn, hnn, hpi, hk]⟩
  have HFI := Aside0.mk (hfine pw pi hpw.symm (by show 3 ≤ pickN f0 6; omega) (by show pickN f0 6 ≠ 4; omega) hn (by show pi = pickN f2 (x.way pw).length; rw [hnn, hpi]))
  clear hfine
  obtain ⟨⟨a0, a1, a2, a3, a4⟩, hfr⟩ : ∃ fr, x.frame pw pi = fr := ⟨_, rfl⟩
  have HFR := Aside0.mk hfr
  have hf0 : -9223372036854775808 ≤ a0 := by
    have h1 := hx.out.f0 pw hw2 _ (getD_mem (x.way pw) pi z46 (by rw [hnn]; exact hpn))
    have h2 : (x.way pw).getD pi z46 = ⟨a0, a1, a2, a3, a4⟩ := hfr
    rw [h2] at h1
    exact h1
  have hp1 : ((n : Int) == 0) = false := beq_eq_false_iff_ne.mpr (by omega)
  clear hnn hpi hfr i2
  have hk0 : ((kd : Int) == 0) = false := beq_eq_false_iff_ne.mpr (by omega)
  have hk1 : ((kd : Int) == 1) = false := beq_eq_false_iff_ne.mpr (by omega)
  have hk2 : ((kd : Int) == 2) = false := beq_eq_false_iff_ne.mpr (by omega)
  have hk5 : ((kd : Int) != 5) = true := bne_iff_ne.mpr (by omega)
  have hk4 : ((kd : Int) == 4) = false := beq_eq_false_iff_ne.mpr (by omega)
  have HK := Aside0.mk hk
  clear hk
  have HX0 : Aside0 (KeepB W W.heap.size #[.int .i64 f0, .int .i64 f1, .int .i64 f2, .string f3] (W.alloc (.cells #[.int .i64 f0, .int .i64 f1, .int .i64 f2, .string f3] 28))) := ⟨⟨heap_alloc_new W (.cells #[.int .i64 f0, .int .i64 f1, .int .i64 f2, .string f3] 28), fun _ _ e => blk_alloc e _⟩⟩
  have HQ0 := Aside0.mk (H.out.alloc (.cells #[.int .i64 f0, .int .i64 f1, .int .i64 f2, .string f3] 28))
  obtain ⟨b3, hb3⟩ : ∃ b3, W.heap.size = b3 := ⟨_, rfl⟩
  rw [hb3] at HX0
  clear hpw hkd hpo i0 i1
  go_enter Try.func11, Try.ntmps11
  go_wp2_with (go_at_call 14; refine (HP1.out _).mono ?_)
  rintro e W1 ⟨rfl, m1, rfl⟩
  try rw [hb3]
  clear hb3
  have HX1 := Aside0.mk (HX0.out.drewN m1)
  have HQ1 := Aside0.mk (HQ0.out.drewN m1)
  generalize (W.alloc (.cells #[.int .i64 f0, .int .i64 f1, .int .i64 f2, .string f3] 28)).drewN m1 = W1 at HX1 HQ1 ⊢
  clear HX0 HQ0 HP1
  obtain ⟨z0, z1, z2, z3, _, _, _, _⟩ := bx4 HX1.out.D
  go_wp2_with (go_at_call 14; refine (HP0.out _).mono ?_)
  rintro e W2 ⟨rfl, m2, rfl⟩
  have HX2 := Aside0.mk (HX1.out.drewN m2)
  have HQ2 := Aside0.mk (HQ1.out.drewN m2)
  generalize W1.drewN m2 = W2 at HX2 HQ2 ⊢
  clear HX1 HQ1 HP0 z0 z1 z2 z3
  have hpI : (pw : Int) < 2 := by omega
  have hpI0 : (0 : Int) ≤ (pw : Int) := by omega
  have hoI : (po : Int) < 2 := by omega
  have hoI0 : (0 : Int) ≤ (po : Int) := by omega
  have hqI : (pi : Int) < (n : Int) := by omega
  have hqI0 : (0 : Int) ≤ (pi : Int) := by omega
  obtain ⟨gr, cw, ew, _, hgr, _⟩ := Kd.R_form (HQ2.out.y pw hw2) (by rw [HNN.out]; exact hn0)
  rw [HNN.out] at ew
  have HEW := Aside0.mk ew
  have hcw : n ≤ cw := by
    have h1 := HQ2.out.y pw hw2
    rw [ew] at h1
    exact (Kd.R_reads' h1).2.1
  have HYW : Aside0 (∀ W, PairIs w W B x → W.cell? ⟨B.gw, pw, none⟩ = some (.slice (some ⟨gr, 0, none⟩) n cw)) := ⟨fun W h => by rw [h.at_w pw hw2, HEW.out]⟩
  have HYR : Aside0 (∀ W, PairIs w W B x → kF.R 46 W w.heap.size (fun _ => True) (.slice (some ⟨gr, 0, none⟩) n cw) (x.way pw)) := ⟨fun W h => by have := h.y pw hw2; rw [HEW.out] at this; exact this⟩
  clear ew
  have y0 := HYW.out _ HQ2.out
  obtain ⟨x0, x1, x2, x3, _, _, _, _⟩ := bx4 HQ2.out.X
  obtain ⟨d0, d1, d2, d3, _, _, _, _⟩ := bx4 HX2.out.D
  have HPq : Aside0 (∀ a, _) := ⟨fun a => HP2.out (W2.drewN a)⟩
  clear hn
  go_wp2
  go_quiet (first | (go_at_call 14; with_reducible exact Calls.quiet_of (HPq.out _)) | fail)
  have HX3 := Aside0.mk (HX2.out.drewN nq)
  have HQ3 := Aside0.mk (HQ2.out.drewN nq)
  generalize W2.drewN nq = W3 at HX3 HQ3 ⊢
  clear HX2 HQ2 HPq y0 x0 x1 x2 x3 d0 d1 d2 d3 hgr HP2
  have y0 := HYW.out _ HQ3.out
  obtain ⟨x0, x1, x2, x3, _, _, _, _⟩ := bx4 HQ3.out.X
  obtain ⟨d0, d1, d2, d3, _, _, _, _⟩ := bx4 HX3.out.D
  obtain ⟨q0, q1, q2, q3, q4⟩ := rowF_at (HYR.out _ HQ3.out) pi (by rw [HNN.out]; exact hpn)
  have hfr2 : (x.way pw).getD pi z46 = ⟨a0, a1, a2, a3, a4⟩ := HFR.out
  rw [hfr2] at q0 q1 q2 q3 q4
  dsimp only at q0 q1 q2 q3 q4
  clear hfr2
  have HF4 := Aside0.mk (heap_alloc_new W3 (.cells #[.int .i64 a0, .int .i64 a1, .int .i64 a2, .int .i64 a3, .string a4] 46))
  have HX4 := Aside0.mk (HX3.out.alloc (.cells #[.int .i64 a0, .int .i64 a1, .int .i64 a2, .int .i64 a3, .string a4] 46))
  have HQ4 := Aside0.mk (HQ3.out.alloc (.cells #[.int .i64 a0, .int .i64 a1, .int .i64 a2, .int .i64 a3, .string a4] 46))
  have hb3l := blk_lt HX3.out.D
  go_wp2_with (go_at_call 14; refine (HP0b.out _).mono ?_)
  rintro e W5 ⟨rfl, m5, rfl⟩
  have HWL : Aside0 (∀ j, (B.wv pw).ownBlock = some j → j ≠ W3.heap.size) := ⟨fun j hj => Nat.ne_of_lt (Kd.R_lt (HQ3.out.y pw hw2) j hj)⟩
  have HF5 := Aside0.mk (blk_drewN HF4.out m5)
  have HX5 := Aside0.mk (HX4.out.drewN m5)
  have HQ5 := Aside0.mk (HQ4.out.drewN m5)
  generalize (W3.alloc (.cells #[.int .i64 a0, .int .i64 a1, .int .i64 a2, .int .i64 a3, .string a4] 46)).drewN m5 = W5 at HF5 HX5 HQ5 ⊢
  generalize W3.heap.size = bf at HF5 HWL ⊢
  clear HF4 HX4 HQ4 HX3 HQ3 hb3l y0 x0 x1 x2 x3 d0 d1 d2 d3 q0 q1 q2 q3 q4
  have HLT := Aside0.mk (show ((x.way pw).take pi).length = pi by rw [List.length_take, HNN.out]; omega)
  have HCT : Aside0 (∀ W, PairIs w W B x → kF.C W (some ⟨gr, 0, none⟩) pi ((x.way pw).take pi)) := ⟨fun W h => by
    have h1 := (Kd.R_reads' (HYR.out W h)).2.2
    have h2 := Kd.C_take (m := pi) h1 (by rw [HNN.out]; omega)
    rw [HLT.out] at h2
    exact h2⟩
  obtain ⟨A', hA'⟩ : ∃ A', (if cw = pi + 1 then some (⟨gr, 0, none⟩ : Addr) else (some (⟨gr, 0, none⟩ : Addr)).map (·.add ((pi + 1) * 5))) = A' := ⟨_, rfl⟩
  have HLD := Aside0.mk (show ((x.way pw).drop (pi + 1)).length = n - (pi + 1) by rw [List.length_drop, HNN.out])
  have HCD : Aside0 (∀ W, PairIs w W B x → kF.C W A' (n - (pi + 1)) ((x.way pw).drop (pi + 1))) := ⟨fun W h => by
    have h1 := (Kd.R_reads' (HYR.out W h)).2.2
    have h2 := Kd.C_drop (m := pi + 1) (c := cw) h1 (by rw [HNN.out]; omega) (by rw [HNN.out]; exact hcw)
    have e3 : kF.sz = 5 := rfl
    rw [HLD.out, e3, hA'] at h2
    exact h2⟩
  have hcutA : ∀ W : World, (Instr.slice 30 (.slice (some ⟨gr, 0, none⟩) n cw) none (some (.int .i64 (pi : Int))) none).run Try.prog W = .ok (.slice (some ⟨gr, 0, none⟩) pi cw) W := by
    obtain ⟨i, hi, hii⟩ := Option.map_eq_some_iff.1 infoF
    exact cut_to (P := Try.prog) 30 46 .i64 Try.underlying30 hi (some ⟨gr, 0, none⟩) n cw (pi : Int) (by omega) (by omega) hcw
  have hcutB : ∀ W : World, (Instr.slice 30 (.slice (some ⟨gr, 0, none⟩) n cw) (some (.int .i64 ((pi : Int) + 1))) none none).run Try.prog W = .ok (.slice A' (n - (pi + 1)) (cw - (pi + 1))) W := by
    obtain ⟨i, hi, hii⟩ := Option.map_eq_some_iff.1 infoF
    simp only [Prod.mk.injEq] at hii
    have := cut_from (P := Try.prog) 30 46 .i64 Try.underlying30 hi 5 hii.2.1 (some ⟨gr, 0, none⟩) n cw ((pi : Int) + 1) (by omega) (by omega)
    rw [show ((pi : Int) + 1).toNat = pi + 1 by omega, hA'] at this
    exact this
  have hcutC : ∀ W : World, (Instr.slice 30 (.slice (some ⟨gr, 0, none⟩) n cw) (some (.int .i64 (wrap64 ((pi : Int) + 1)))) none none).run Try.prog W = .ok (.slice A' (n - (pi + 1)) (cw - (pi + 1))) W := by
    rw [show wrap64 ((pi : Int) + 1) = (pi : Int) + 1 by unfold wrap64; omega]
    exact hcutB
  clear hA'
  go_wp2
  have HQd := Aside0.mk HQ5.out.drew
  have HXd := Aside0.mk (HX5.out.drew)
  have HFd := Aside0.mk (blk_drew HF5.out)
  refine start_ (n := 28) (S := fun W => PairS W B b3 #[.int .i64 f0, .int .i64 f1, .int .i64 f2, .string f3]) (ds := [27]) (bz 28 0) (by kernel_rfl) rfl rfl (PairS.of HQd.out HXd.out.D) (fun hHeld => ?_); refine with_tabW tuR.tab9 tuR.bits9 (fun HT_ HW_ => ?_)
  generalize W5.drew = W6 at hHeld HQd HXd HFd ⊢
  refine pu_ 0 (some 54) (bz 28 1) HT_.out ?_
  refine pu_ 1 (some 55) (bz 28 3) HT_.out ?_
  refine pu_ 2 (some 56) (bz 28 7) HT_.out ?_
  refine pu_ 4 (some 58) (bz 28 23) HT_.out ?_
  refine pu_ 5 (some 59) (bz 28 55) HT_.out ?_
  refine pu_ 6 (some 60) (bz 28 119) HT_.out ?_
  refine pu_ 7 (some 61) (bz 28 247) HT_.out ?_
  refine pu_ 9 (some 63) (bz 28 759) HT_.out ?_
  refine pu_ 12 (some 66) (bz 28 4855) HT_.out ?_
  refine pu_ 15 (some 69) (bz 28 37623) HT_.out ?_
  refine pu_ 16 (some 70) (bz 28 103159) HT_.out ?_
  refine pu_ 17 (some 71) (bz 28 234231) HT_.out ?_
  refine pu_ 19 (some 73) (bz 28 758519) HT_.out ?_
  refine pu_ 22 (some 76) (bz 28 4952823) HT_.out ?_
  refine pu_ 23 (some 77) (bz 28 13341431) HT_.out ?_
  refine take_ (i := 3) (N := (some 57)) (v := ?_) (a' := ?_) (bz 28 13341439) rfl rfl (take_ofW HT_.out HW_.out (by kernel_rfl)) (fun _ _ _ h => h) (Or.inl ⟨by rfl, ?_⟩) hHeld ?_ ?_
  rotate_left
  · rintro w' s0
    obtain ⟨x0, x1, x2, x3, _, _, _, _⟩ := bx4 s0.X
    go_simp
    with_reducible rfl
  rotate_left
  · simp only [Act.put, sl1, sl2, sl3, i64_w, i32_w]
    rfl
  refine take_ (i := 8) (N := (some 62)) (v := ?_) (a' := ?_) (bz 28 13341695) rfl rfl (take_ofW HT_.out HW_.out (by kernel_rfl)) (fun _ _ _ h => h) (Or.inl ⟨by rfl, ?_⟩) hHeld ?_ ?_
  rotate_left
  · rintro w' s0
    obtain ⟨x0, x1, x2, x3, _, _, _, _⟩ := bx4 s0.X
    go_simp
    with_reducible rfl
  rotate_left
  · simp only [Act.put, sl1, sl2, sl3, i64_w, i32_w]
    rfl
  refine pu_ 10 (some 64) (bz 28 13342719) HT_.out ?_
  refine take_ (i := 11) (N := (some 65)) (v := ?_) (a' := ?_) (bz 28 13344767) rfl rfl (take_ofW HT_.out HW_.out (by kernel_rfl)) (fun _ _ _ h => h) (Or.inl ⟨by rfl, ?_⟩) hHeld ?_ ?_
  rotate_left
  · rintro w' s0
    have y0 : w'.cell? ⟨B.gw, pw, none⟩ = some (.slice (some ⟨gr, 0, none⟩) n cw) := by rw [s0.at_w pw hw2, HEW.out]
    go_simp
    with_reducible rfl
  rotate_left
  · simp only [Act.put, sl1, sl2, sl3, i64_w, i32_w]
    rfl
  refine pu_ 13 (some 67) (bz 28 13352959) HT_.out ?_
  refine take_ (i := 18) (N := (some 72)) (v := ?_) (a' := ?_) (bz 28 13615103) rfl rfl (take_ofW HT_.out HW_.out (by kernel_rfl)) (fun _ _ _ h => h) (Or.inl ⟨by rfl, ?_⟩) hHeld ?_ ?_
  rotate_left
  · rintro w' s0
    obtain ⟨x0, x1, x2, x3, _, _, _, _⟩ := bx4 s0.X
    go_simp
    with_reducible rfl
  rotate_left
  · simp only [Act.put, sl1, sl2, sl3, i64_w, i32_w]
    rfl
  refine pu_ 20 (some 74) (bz 28 14663679) HT_.out ?_
  refine take_ (i := 21) (N := (some 75)) (v := ?_) (a' := ?_) (bz 28 16760831) rfl rfl (take_ofW HT_.out HW_.out (by kernel_rfl)) (fun _ _ _ h => h) (Or.inl ⟨by rfl, ?_⟩) hHeld ?_ ?_
  rotate_left
  · rintro w' s0
    have y0 : w'.cell? ⟨B.gw, pw, none⟩ = some (.slice (some ⟨gr, 0, none⟩) n cw) := by rw [s0.at_w pw hw2, HEW.out]
    go_simp
    with_reducible rfl
  rotate_left
  · simp only [Act.put, sl1, sl2, sl3, i64_w, i32_w]
    rfl
  refine pu_ 24 (some 78) (bz 28 33538047) HT_.out ?_
  refine one_ (i := 14) (N := (some 68)) (bz 28 33554431) rfl rfl (one_of HT_.out (by kernel_rfl)) (by decide) (fun K hK => ?_)
  refine Kd.R_append_rows_step kF (Rr := kF.K W6) (w0 := w) w.heap.size (by rfl) (.const (.slice none 0 0)) (.tmp 67) 30 46 (.agg #[.int .i64 0, .int .i64 0, .int .i64 0, .int .i64 0, .string ⟨#[]⟩]) 48 rfl Try.underlying30 infoF rfl (by decide) (by omega) (.slice none 0 0) ([] : List FrT) ((x.way pw).take pi) (some ⟨gr, 0, none⟩) (pi) (cw) (fun _ => True) (fun _ => False) rfl rfl ?aO ?aR (fun _ _ h => kF_KM h) (fun _ h => h.elim) ?aF ?aB ?aS ?aL ?_
  case aR => exact HCT.out _ HQd.out
  case aF => exact (fun _ _ => trivial)
  case aO => exact Kd.R_nil _ _ _ _ _
  case aB => exact HQd.out.two.Bl
  case aS => exact HQd.out.two.Bl.size
  case aL => first | (simp only [List.length_nil]; omega) | omega
  intro v4 w4 ho hb hg hat
  try rw [List.nil_append] at ho
  obtain ⟨A4, c4, e4⟩ := Kd.R_slice ho
  rw [HLT.out] at e4
  subst e4
  have HR4 := Aside0.mk ho
  have HO4 : Aside0 (Only W6 w4 (fun _ => False)) := ⟨Only.none_ hg⟩
  have HA4 := Aside0.mk (fresh_of hat)
  have HQ4_ := Aside0.mk (HQd.out.below (HO4.out.below (Nat.le_refl _) (fun _ h => h.elim)))
  refine hK.out _ _ (hHeld.none_ hg) (fun hHeld => ?_)
  clear hK K
  refine norm_ (a' := ?_) ?_ ?_
  rotate_left
  · show Act.put _ (some 68) _ = _
    simp only [Act.put, sl1, sl2, sl3, i64_w, i32_w]
    rfl
  refine one_ (i := 25) (N := (some 79)) (bz 28 67108863) rfl rfl (one_of HT_.out (by kernel_rfl)) (by decide) (fun K hK => ?_)
  refine Kd.R_append_rows_step kF (Rr := kF.K w4) (w0 := w) w.heap.size (by rfl) (.tmp 68) (.tmp 78) 30 46 (.agg #[.int .i64 0, .int .i64 0, .int .i64 0, .int .i64 0, .string ⟨#[]⟩]) 48 rfl Try.underlying30 infoF rfl (by decide) (by omega) (.slice A4 pi c4) ((x.way pw).take pi) ((x.way pw).drop (pi + 1)) (A') (n - (pi + 1)) (cw - (pi + 1)) (fun _ => True) (fun _ => False) rfl rfl ?aO ?aR (fun _ _ h => kF_KM h) (fun _ h => h.elim) ?aF ?aB ?aS ?aL ?_
  case aR => exact HCD.out _ HQ4_.out
  case aF => exact (fun _ _ => trivial)
  case aO => exact HR4.out
  case aB => exact HQ4_.out.two.Bl
  case aS => exact HQ4_.out.two.Bl.size
  case aL => rw [HLT.out]; omega
  intro v6 w6 ho hb hg hat
  have HO6 : Aside0 (Only W6 w6 (fun _ => False)) := ⟨HO4.out.then_ (Only.rowOf hg) (fun i hi => .inr (HA4.out i hi))⟩
  have HA6 := Aside0.mk (fun j hj => (hat_of hat j hj).elim (HA4.out j) (Nat.le_trans HO4.out.size))
  obtain ⟨A6, c6, e6⟩ := Kd.R_slice ho
  obtain ⟨nv, hnv⟩ : ∃ nv, ((x.way pw).take pi ++ (x.way pw).drop (pi + 1)).length = nv := ⟨_, rfl⟩
  rw [hnv] at e6
  subst e6
  have HSF := Aside0.mk (HQd.out.way_grew pw hw2 ho (HO6.out.mono (fun _ _ h => h.elim)) (fun j hj => .inr (HA6.out j hj)))
  have hY6 := HO6.out.blk HQd.out.Y (fun h => h)
  have hsl : w6.cell? ⟨B.gw, pw, none⟩ = some (B.wv pw) := by rcases two01 hw2 with rfl | rfl <;> exact blk_cell hY6 _
  have hsf := blk_frozen hY6 pw
  clear hnv
  refine hK.out _ _ ((PairS.of HQd.out HXd.out.D).only HO6.out (fun _ h => h)) (fun hHeld => ?_)
  clear hK K
  refine norm_ (a' := ?_) ?_ ?_
  rotate_left
  · show Act.put _ (some 79) _ = _
    simp only [Act.put, sl1, sl2, sl3, i64_w, i32_w]
    rfl
  refine pu_ 26 (some 80) (bz 28 134217727) HT_.out ?_
  refine last_ (i := 27) (N := none) (bz 28 268435455) rfl rfl (one_of HT_.out (by kernel_rfl)) (by decide) (fun K hK => ?_)
  refine skip_ (w1 := ?_) (by rfl) rfl ?_ ?_
  rotate_left
  · go_simp
    rfl
  refine hK.out _ _ ?_
  clear hK K
  refine done_ (done_of HT_.out (by kernel_rfl)) ?_
  have HX7 := Aside0.mk ((HXd.out.only HO6.out).put hY6 (by decide) pw (.slice A6 nv c6))
  have HF7 := Aside0.mk (blk_far (p := ⟨B.gw, pw, none⟩) (HO6.out.blk HFd.out (fun h => h)) (blk_ne HFd.out HQd.out.Y (by decide)) (.slice A6 nv c6))
  have HQ7 := HSF
  generalize w6.setCell ⟨B.gw, pw, none⟩ (.slice A6 nv c6) = W7 at HX7 HF7 HQ7 ⊢
  have HXM : Aside0 (x.gone pw 3 pi = { x with way := upd x.way pw ((x.way pw).take pi ++ (x.way pw).drop (pi + 1)) }) := ⟨by unfold PaM.gone; exact if_neg (by decide)⟩
  clear HT_ HW_ hHeld hcutA hcutB hcutC hsl hsf hY6 ho hb hg hat HSF HO6 HA6 HR4 HO4 HA4 HQ4_ HQd HXd HFd
  obtain ⟨d0, d1, d2, d3, _, _, _, _⟩ := bx4 HX7.out.D
  go_wp2_with (go_at_call 14; refine (HP0b.out _).mono ?_)
  rintro e W8 ⟨rfl, m8, rfl⟩
  have HX8 := Aside0.mk (HX7.out.drewN m8)
  have HF8 := Aside0.mk (blk_drewN HF7.out m8)
  have HQ8 := Aside0.mk (HQ7.out.drewN m8)
  generalize W7.drewN m8 = W8 at HX8 HF8 HQ8 ⊢
  clear HX7 HF7 HQ7 d0 d1 d2 d3
  obtain ⟨wv8, own8, way8, hq8, hxm⟩ : ∃ wv8 own8 way8, PairIs w W8 { B with wv := wv8, own := own8 } { x with way := way8 } ∧ x.gone pw 3 pi = { x with way := way8 } := ⟨_, _, _, HQ8.out, HXM.out⟩
  have HQ9 := Aside0.mk hq8
  have HXN := Aside0.mk hxm
  clear hq8 hxm HQ8 HXM
  obtain ⟨l', hl'⟩ : ∃ l', ((x.l pw).take ⟨a0, a1, a2, a3, a4⟩).1 = l' := ⟨_, rfl⟩
  obtain ⟨bs, hbs⟩ : ∃ bs, ((x.l pw).take ⟨a0, a1, a2, a3, a4⟩).2.1 = bs := ⟨_, rfl⟩
  obtain ⟨nb, hnb⟩ : ∃ nb, bs.length = nb := ⟨_, rfl⟩
  have HT3 : Aside0 ((x.l pw).take ⟨a0, a1, a2, a3, a4⟩ = (l', bs, false)) := ⟨by have h1 := HFI.out.1; rw [HFR.out] at h1; rw [← hl', ← hbs, ← h1]⟩
  have HPF : Aside0 ((x.told pw ++ bs) <+: x.sent po) := ⟨by have h1 := HFI.out.2; rw [HFR.out, hbs, HPO.out] at h1; exact h1⟩
  have HNB := Aside0.mk hnb
  have hnb1 : nb ≤ 100000 := by
    have h1 := HPF.out.length_le
    have h2 := hx.out.sent po ho2
    rw [List.length_append] at h1
    omega
  have HXC : Aside0 (x.come pw 3 pi = { x with way := way8, l := upd x.l pw l', told := upd x.told pw (x.told pw ++ bs) }) := ⟨by unfold PaM.come; rw [if_neg (by decide), HXN.out, HFR.out, HT3.out]⟩
  have HC : Aside0 (∀ W, PairIs w W { B with wv := wv8, own := own8 } { x with way := way8 } → Calls Try.prog 18 #[.pointer (some ⟨B.g pw, 0, none⟩), .agg #[.int .i64 a0, .int .i64 a1, .int .i64 a2, .int .i64 a3, .string a4]] W (TakeP W w.heap.size W.heap.size (B.g pw) (B.V pw) l' bs nb)) := ⟨fun W h => by
    have h1 := take_calls _ _ _ _ ⟨a0, a1, a2, a3, a4⟩ W (h.lk pw hw2) (hx.out.l pw hw2) hf0
    rw [show ({ x with way := way8 } : PaM).l pw = x.l pw from rfl, HT3.out] at h1
    rw [← hnb]
    exact h1⟩
  clear hl' hbs hnb hf0
  go_wp2
  have HQd := Aside0.mk HQ9.out.drew
  have HXd := Aside0.mk (HX8.out.drew)
  have HFd := Aside0.mk (blk_drew HF8.out)
  refine start_ (n := 14) (S := fun W => PairS W { B with wv := wv8, own := own8 } b3 #[.int .i64 f0, .int .i64 f1, .int .i64 f2, .string f3] ∧ W.heap[bf]? = some (.cells #[.int .i64 a0, .int .i64 a1, .int .i64 a2, .int .i64 a3, .string a4] 46 (0, 0))) (ds := []) (bz 14 0) (by kernel_rfl) rfl rfl ⟨PairS.of HQd.out HXd.out.D, HFd.out⟩ (fun hHeld => ?_); refine with_tabW tuR.tab12 tuR.bits12 (fun HT_ HW_ => ?_)
  generalize W8.drew = W3 at hHeld HQd HXd HFd ⊢
  refine pu_ 0 (some 86) (bz 14 1) HT_.out ?_
  refine pu_ 1 (some 87) (bz 14 3) HT_.out ?_
  refine pu_ 2 (some 88) (bz 14 7) HT_.out ?_
  refine pu_ 4 (some 90) (bz 14 23) HT_.out ?_
  refine take_ (i := 3) (N := (some 89)) (v := ?_) (a' := ?_) (bz 14 31) rfl rfl (take_ofW HT_.out HW_.out (by kernel_rfl)) (fun _ _ _ h => h) (Or.inl ⟨by rfl, ?_⟩) hHeld ?_ ?_
  rotate_left
  · rintro w' ⟨s0, s1⟩
    obtain ⟨x0, x1, x2, x3, _, _, _, _⟩ := bx4 s0.X
    go_simp
    with_reducible rfl
  rotate_left
  · simp only [Act.put, sl1, sl2, sl3, i64_w, i32_w]
    rfl
  refine pu_ 5 (some 91) (bz 14 63) HT_.out ?_
  refine take_ (i := 6) (N := (some 92)) (v := ?_) (a' := ?_) (bz 14 127) rfl rfl (take_ofW HT_.out HW_.out (by kernel_rfl)) (fun _ _ _ h => h) (Or.inl ⟨by rfl, ?_⟩) hHeld ?_ ?_
  rotate_left
  · rintro w' ⟨s0, s1⟩
    have y0 := s0.at_l pw hw2
    go_simp
    with_reducible rfl
  rotate_left
  · simp only [Act.put, sl1, sl2, sl3, i64_w, i32_w]
    rfl
  refine take_ (i := 7) (N := (some 93)) (v := ?_) (a' := ?_) (bz 14 255) rfl rfl (take_ofW HT_.out HW_.out (by kernel_rfl)) (fun _ _ _ h => h) (Or.inl ⟨by rfl, ?_⟩) hHeld ?_ ?_
  rotate_left
  · rintro w' ⟨s0, s1⟩
    obtain ⟨f0_, f1_, f2_, f3_, f4_, _, _, _, _, _⟩ := bx5 s1
    go_simp
    with_reducible rfl
  rotate_left
  · simp only [Act.put, sl1, sl2, sl3, i64_w, i32_w]
    rfl
  refine one_ (i := 8) (N := (some 94)) (bz 14 511) rfl rfl (one_of HT_.out (by kernel_rfl)) (by decide) (fun K hK => ?_)
  refine goes_ Try.func18 (by kernel_rfl) rfl #[.pointer (some ⟨B.g pw, 0, none⟩), .agg #[.int .i64 a0, .int .i64 a1, .int .i64 a2, .int .i64 a3, .string a4]] (by rfl) rfl rfl am ?_
  refine (HC.out _ HQd.out).mono ?_
  rintro e w1 ⟨Ab, cb, rfl, hR, V1, hA, hO⟩
  refine ⟨_, rfl, ?_⟩
  have HQ4 := Aside0.mk (HQd.out.deed pw hw2 hA hO)
  have HX4 := Aside0.mk (HXd.out.deed hO (HQd.out.lk pw hw2))
  have HF4 := Aside0.mk (hO.box (HQd.out.lk pw hw2) hHeld.2 (by decide) (by decide))
  have HCO := Aside0.mk (Kd.R_reads' hR).2.2
  clear hR
  refine hK.out _ _ ⟨(PairS.of HQ4.out HX4.out.D).cast, HF4.out⟩ (fun hHeld => ?_)
  clear hK K
  refine norm_ (a' := ?_) ?_ ?_
  rotate_left
  · show Act.put _ (some 94) _ = _
    simp only [Act.put, sl1, sl2, sl3, i64_w, i32_w]
    rfl
  refine pu_ 9 (some 85) (bz 14 1023) HT_.out ?_
  refine pu_ 10 (some 95) (bz 14 2047) HT_.out ?_
  refine pu_ 11 (some 96) (bz 14 4095) HT_.out ?_
  refine pu_ 12 (some 9) (bz 14 8191) HT_.out ?_
  refine pu_ 13 (some 10) (bz 14 16383) HT_.out ?_
  refine done_ (done_of HT_.out (by kernel_rfl)) ?_
  clear HT_ HW_ hHeld hA hO HQd HXd HFd HQ9 HX8 HF8 HC HF4
  go_wp2
  have HQ5 := Aside0.mk HQ4.out.drew
  have HX5 := Aside0.mk (HX4.out.drew)
  have HCO5 : Aside0 (Kd.string.C w1.drew Ab nb bs) := ⟨by have h1 := Kd.C_drew HCO.out; rw [HNB.out] at h1; exact h1⟩
  clear HQ4 HX4 HCO
  refine start_ (n := 16) (S := fun W => PairS W { B with wv := wv8, own := own8, V := upd B.V pw V1 } b3 #[.int .i64 f0, .int .i64 f1, .int .i64 f2, .string f3]) (ds := [15]) (bz 16 0) (by kernel_rfl) rfl rfl (PairS.of HQ5.out HX5.out.D) (fun hHeld => ?_); refine with_tabW tuR.tab13 tuR.bits13 (fun HT_ HW_ => ?_)
  generalize World.drew _ = W5 at hHeld HQ5 HX5 HCO5 ⊢
  refine pu_ 0 (some 97) (bz 16 1) HT_.out ?_
  refine pu_ 1 (some 98) (bz 16 3) HT_.out ?_
  refine pu_ 2 (some 99) (bz 16 7) HT_.out ?_
  refine pu_ 4 (some 101) (bz 16 23) HT_.out ?_
  refine pu_ 5 (some 102) (bz 16 55) HT_.out ?_
  refine pu_ 6 (some 103) (bz 16 119) HT_.out ?_
  refine pu_ 7 (some 104) (bz 16 247) HT_.out ?_
  refine pu_ 9 (some 106) (bz 16 759) HT_.out ?_
  refine pu_ 12 (some 109) (bz 16 4855) HT_.out ?_
  refine take_ (i := 3) (N := (some 100)) (v := ?_) (a' := ?_) (bz 16 4863) rfl rfl (take_ofW HT_.out HW_.out (by kernel_rfl)) (fun _ _ _ h => h) (Or.inl ⟨by rfl, ?_⟩) hHeld ?_ ?_
  rotate_left
  · rintro w' s0
    obtain ⟨x0, x1, x2, x3, _, _, _, _⟩ := bx4 s0.X
    go_simp
    with_reducible rfl
  rotate_left
  · simp only [Act.put, sl1, sl2, sl3, i64_w, i32_w]
    rfl
  refine take_ (i := 8) (N := (some 105)) (v := ?_) (a' := ?_) (bz 16 5119) rfl rfl (take_ofW HT_.out HW_.out (by kernel_rfl)) (fun _ _ _ h => h) (Or.inl ⟨by rfl, ?_⟩) hHeld ?_ ?_
  rotate_left
  · rintro w' s0
    obtain ⟨x0, x1, x2, x3, _, _, _, _⟩ := bx4 s0.X
    go_simp
    with_reducible rfl
  rotate_left
  · simp only [Act.put, sl1, sl2, sl3, i64_w, i32_w]
    rfl
  refine pu_ 10 (some 107) (bz 16 6143) HT_.out ?_
  refine take_ (i := 11) (N := (some 108)) (v := ?_) (a' := ?_) (bz 16 8191) rfl rfl (take_ofW HT_.out HW_.out (by kernel_rfl)) (fun _ _ _ h => h) (Or.inl ⟨by rfl, ?_⟩) hHeld ?_ ?_
  rotate_left
  · rintro w' s0
    have y0 := s0.at_t pw hw2
    go_simp
    with_reducible rfl
  rotate_left
  · simp only [Act.put, sl1, sl2, sl3, i64_w, i32_w]
    rfl
  refine one_ (i := 13) (N := (some 110)) (bz 16 16383) rfl rfl (one_of HT_.out (by kernel_rfl)) (by decide) (fun K hK => ?_)
  refine Kd.R_append_rows_step Kd.string (Rr := Kd.string.K W5) (w0 := w) w.heap.size (by rfl) (.tmp 108) (.tmp 109) 36 9 (.string ⟨#[]⟩) 16 rfl Try.underlying36 infoS rfl (by decide) (by omega) (B.tv pw) (x.told pw) bs Ab nb cb (fun _ => True) (fun _ => False) rfl rfl ?aO ?aR (fun _ _ h => h) (fun _ h => h.elim) ?aF ?aB ?aS ?aL ?_
  case aR => exact HCO5.out
  case aF => exact (fun _ _ => trivial)
  case aO => exact HQ5.out.t pw hw2
  case aB => exact HQ5.out.two.Bl
  case aS => exact HQ5.out.two.Bl.size
  case aL => have h1_ := hx.out.told pw hw2; omega
  intro v6 w6 ho hb hg hat
  obtain ⟨Av, cv, ev⟩ := Kd.R_slice ho
  obtain ⟨nt, hnt⟩ : ∃ nt, (x.told pw ++ bs).length = nt := ⟨_, rfl⟩
  rw [hnt] at ev
  subst ev
  obtain ⟨hsl, hsf⟩ := slot_at HQ5.out.T hg (Kd.R_ne (HQ5.out.t pw hw2) HQ5.out.T (by decide)) hw2
  have HXF := Aside0.mk (fun v => (HX5.out.grown (HQ5.out.t pw hw2) hg (by decide)).put (blk_grown HQ5.out.T hg (Kd.R_ne (HQ5.out.t pw hw2) HQ5.out.T (by decide))) (by decide) pw v)
  have HSF := Aside0.mk (HQ5.out.told_grew pw hw2 ho (Only.rowOf hg) (hat_of hat))
  have HNT := Aside0.mk hnt
  clear hnt
  refine hK.out _ _ ((PairS.of HQ5.out HX5.out.D).row (HQ5.out.t pw hw2) hg (.inl rfl)) (fun hHeld => ?_)
  clear hK K
  refine norm_ (a' := ?_) ?_ ?_
  rotate_left
  · show Act.put _ (some 110) _ = _
    simp only [Act.put, sl1, sl2, sl3, i64_w, i32_w]
    rfl
  refine pu_ 14 (some 111) (bz 16 32767) HT_.out ?_
  refine last_ (i := 15) (N := none) (bz 16 65535) rfl rfl (one_of HT_.out (by kernel_rfl)) (by decide) (fun K hK => ?_)
  refine skip_ (w1 := ?_) (by rfl) rfl ?_ ?_
  rotate_left
  · go_simp
    rfl
  refine hK.out _ _ ?_
  clear hK K
  refine done_ (done_of HT_.out (by kernel_rfl)) ?_
  have HNS : Aside0 (nt ≤ (x.sent po).length) := ⟨by have h1 := HPF.out.length_le; rw [HNT.out] at h1; exact h1⟩
  have HYC : Aside0 (x.come pw 3 pi = _) := HXC
  obtain ⟨y, hy⟩ : ∃ y, x.come pw 3 pi = y := ⟨_, rfl⟩
  have HYE := Aside0.mk hy
  obtain ⟨V9, own9, hq9⟩ : ∃ V9 own9, PairIs w (w6.setCell ⟨B.gt, pw, none⟩ (.slice Av nt cv)) { B with V := V9, wv := wv8, tv := upd B.tv pw (.slice Av nt cv), own := own9 } y := ⟨_, _, by rw [← hy, HXC.out]; exact HSF.out⟩
  have HQ9 := Aside0.mk hq9
  clear HT_ HW_ hHeld HSF HYC hy hq9 hsl hsf ho hb hg hat HCO5 HQ5 HX5
  have HX9 := Aside0.mk (HXF.out (.slice Av nt cv))
  clear HXF
  generalize w6.setCell ⟨B.gt, pw, none⟩ (.slice Av nt cv) = W9 at HQ9 HX9 ⊢
  obtain ⟨As, cs, es, _, hCs⟩ := Kd.R_reads (HQ9.out.s po ho2)
  have hys : y.sent po = x.sent po := by rw [← HYE.out, HXC.out]
  have hyt : y.told pw = x.told pw ++ bs := by rw [← HYE.out, HXC.out]; exact upd_same _ _ _
  have HYT := Aside0.mk hyt
  obtain ⟨ns, hns⟩ : ∃ ns, (x.sent po).length = ns := ⟨_, rfl⟩
  have hle : nt ≤ ns := by rw [← hns]; exact HNS.out
  rw [hys, hns] at es
  have HSV : Aside0 (∀ W, PairIs w W { B with V := V9, wv := wv8, tv := upd B.tv pw (.slice Av nt cv), own := own9 } y → W.cell? ⟨B.gs, po, none⟩ = some (.slice As ns cs)) := ⟨fun W h => by rw [h.at_s po ho2, ← es]⟩
  have HTV : Aside0 (∀ W, PairIs w W { B with V := V9, wv := wv8, tv := upd B.tv pw (.slice Av nt cv), own := own9 } y → W.cell? ⟨B.gt, pw, none⟩ = some (.slice Av nt cv)) := ⟨fun W h => by rw [h.at_t pw hw2]; exact congrArg some (upd_same _ _ _)⟩
  have HYS := Aside0.mk hys
  have HNS2 := Aside0.mk hns
  have HES := Aside0.mk es
  clear es hys hns hyt hCs
  obtain ⟨x0, x1, x2, x3, _, _, _, _⟩ := bx4 HQ9.out.X
  have y0 := HTV.out _ HQ9.out
  have y1 := HSV.out _ HQ9.out
  have hcmp : decide ((ns : Int) < (nt : Int)) = false := decide_eq_false (by omega)
  have hcmp2 : ¬ (ns < nt) := by omega
  clear hle
  go_wp2
  go_quiet (fail)
  have HQA := Aside0.mk (HQ9.out.drewN nq)
  have HXA := Aside0.mk (HX9.out.drewN nq)
  generalize W9.drewN nq = WA at HQA HXA ⊢
  clear HX9 HQ9 x0 x1 x2 x3 y0 y1
  go_wp2
  clear hcmp hcmp2
  go_loopg [11] (nt + 1) (fun kq v11 W_ => ∃ (j : Nat), j ≤ nt ∧ v11 = .int .i64 (j : Int) ∧ nt - j < kq ∧ Aside0 (PairIs w W_ { B with V := V9, wv := wv8, tv := upd B.tv pw (.slice Av nt cv), own := own9 } y) ∧ Aside0 (KeepB W b3 #[.int .i64 f0, .int .i64 f1, .int .i64 f2, .string f3] W_))
  case atStart => exact ⟨0, Nat.zero_le _, rfl, by omega, HQA, HXA⟩
  case round =>
    obtain ⟨j, hj, rfl, hq, HQ, HXJ⟩ := hrel
    clear HQA HXA
    obtain ⟨x0, x1, x2, x3, _, _, _, _⟩ := bx4 HQ.out.X
    have y0 := HTV.out _ HQ.out
    have y1 := HSV.out _ HQ.out
    by_cases hjl : j < nt
    · have hjs : j < ns := by have h1 := HNS.out; rw [HNS2.out] at h1; omega
      have h2 : Kd.string.C wr Av (y.told pw).length (y.told pw) := by
        have h := HQ.out.t pw hw2
        rw [show ({ B with V := V9, wv := wv8, tv := upd B.tv pw (.slice Av nt cv), own := own9 } : PB).tv pw = .slice Av nt cv from upd_same _ _ _] at h
        exact (Kd.R_reads' h).2.2
      have h3 : Kd.string.C wr As (y.sent po).length (y.sent po) := by
        have h := HQ.out.s po ho2
        rw [show ({ B with V := V9, wv := wv8, tv := upd B.tv pw (.slice Av nt cv), own := own9 } : PB).sv po = .slice As ns cs from HES.out] at h
        exact (Kd.R_reads' h).2.2
      obtain ⟨ad, e0, hs1⟩ := Kd.at_string h2 (j : Int) (by omega) (by rw [HYT.out, HNT.out]; omega)
      obtain ⟨ad2, e2, hs2⟩ := Kd.at_string h3 (j : Int) (by omega) (by rw [HYS.out, HNS2.out]; omega)
      rw [show rdOf ByteArray.empty (y.told pw) (j : Int) = rdOf ByteArray.empty (y.sent po) (j : Int) from by
        rw [HYT.out, HYS.out]
        exact rdOf_prefix HPF.out j (by rw [HNT.out]; exact hjl)] at hs1
      rw [show ((j : Int)).toNat = j from rfl] at hs1 hs2
      generalize rdOf ByteArray.empty (y.sent po) (j : Int) = st at hs1 hs2
      rw [e0] at y0
      rw [e2] at y1
      clear h2 h3 e0 e2
      have hst2 : (st.toList != st.toList) = false := bne_self_eq_false st.toList
      have hjI : (j : Int) < (nt : Int) := by omega
      have hjI2 : (j : Int) < (ns : Int) := by omega
      have hjI0 : (0 : Int) ≤ (j : Int) := by omega
      have hnt1 : nt ≤ 100000 := by
        have h1 := hx.out.sent po ho2
        have h2 := HNS.out
        omega
      go_wp2
      go_quiet (fail)
      go_wp2
      go_roundg (nt - j)
      case rel => exact ⟨j + 1, by omega, by first | go_num | (congr 1; omega) | rfl, by omega, ⟨HQ.out.drewN _⟩, ⟨HXJ.out.drewN _⟩⟩
      case measure => omega
    · have hd3 : decide ((j : Int) < (nt : Int)) = false := decide_eq_false (by omega)
      go_wp2
      go_ret
      exact turnPost (HE.out.trans HYE.out) HQ.out ⟨rfl, rfl, rfl, rfl, rfl, rfl⟩ HXJ.out
set_option maxHeartbeats 16000000 in
set_option maxRecDepth 100000 in
theorem turn_twice (w W : World) (B : PB) (x : PaM) (f0 f1 f2 : Int) (f3 : ByteArray) (i0 : inB f0 = true) (i1 : inB f1 = true) (i2 : inB f2 = true) (H : Aside0 (PairIs w W B x)) (hx : Aside0 x.Ok) (Y : PaM) (HY : Aside0 (x.turn ⟨f0, f1, f2, f3⟩ = Y)) (hk : pickN f0 6 = 5) (hn : x.way (pickN f1 2) ≠ []) (hfine : x.fine ⟨f0, f1, f2, f3⟩) :
    Calls Try.prog 11 #[.pointer (some ⟨B.gx, 0, none⟩), .agg #[.int .i64 f0, .int .i64 f1, .int .i64 f2, .string f3]] W (TurnPost w W B Y) := by
  obtain ⟨pw, hpw⟩ : ∃ pw, pickN f1 2 = pw := ⟨_, rfl⟩
  obtain ⟨kd, hkd⟩ : ∃ kd, pickN f0 6 = kd := ⟨_, rfl⟩
  have hw2 : pw < 2 := by rw [← hpw]; exact pickN_lt f1 2 (by decide)
  have hk6 : kd < 6 := by rw [← hkd]; exact pickN_lt f0 6 (by decide)
  obtain ⟨po, hpo⟩ : ∃ po, 1 - pw = po := ⟨_, rfl⟩
  have ho2 : po < 2 := by omega
  have HPO := Aside0.mk hpo
  have HP1 := Aside0.mk (fun W => pick_calls f1 2 W i1 (by decide) (by decide))
  have HP0 := Aside0.mk (fun W => pick_calls f0 6 W i0 (by decide) (by decide))
  have HP0b := Aside0.mk (fun W => pick_calls f0 6 W i0 (by decide) (by decide))
  simp only [hpw] at HP1
  simp only [hkd] at HP0 HP0b
  have HKD := Aside0.mk hkd
  have HPW := Aside0.mk hpw
  have hpoI : (1 : Int) - (pw : Int) = (po : Int) := by omega
  rw [hkd] at hk
  rw [hpw] at hn
  obtain ⟨n, hnn⟩ : ∃ n, (x.way pw).length = n := ⟨_, rfl⟩
  have hn0 : 0 < n := by rw [← hnn]; exact List.length_pos_iff.mpr hn
  have hn1 : n ≤ 100000 := by rw [← hnn]; exact hx.out.way pw hw2
  obtain ⟨pi, hpi⟩ : ∃ pi, pickN f2 n = pi := ⟨_, rfl⟩
  have hpn : pi < n := by rw [← hpi]; exact pickN_lt f2 n hn0
  have HP2 := Aside0.mk (fun W => pick_calls f2 n W i2 hn0 (by omega))
  simp only [hpi] at HP2
  have HNN := Aside0.mk hnn
  have HE : Aside0 (Y = x.come pw 5 pi) := ⟨by rw [← HY.out]; unfold PaM.turn; dsimp only; rw [hkd, hpw, if_neg (by omega), if_neg (by omega), if_neg (by omega), if_neg hn, hnn, hpi, hk]⟩
  have HFI := Aside0.mk (hfine pw pi hpw.symm (by show 3 ≤ pickN f0 6; omega) (by show pickN f0 6 ≠ 4; omega) hn (by show pi = pickN f2 (x.way pw).length; rw [hnn, hpi]))
  clear hfine
  obtain ⟨⟨a0, a1, a2, a3, a4⟩, hfr⟩ : ∃ fr, x.frame pw pi = fr := ⟨_, rfl⟩
  have HFR := Aside0.mk hfr
  have hf0 : -9223372036854775808 ≤ a0 := by
    have h1 := hx.out.f0 pw hw2 _ (getD_mem (x.way pw) pi z46 (by rw [hnn]; exact hpn))
    have h2 : (x.way pw).getD pi z46 = ⟨a0, a1, a2, a3, a4⟩ := hfr
    rw [h2] at h1
    exact h1
  have hp1 : ((n : Int) == 0) = false := beq_eq_false_iff_ne.mpr (by omega)
  clear hnn hpi hfr i2
  have hk0 : ((kd : Int) == 0) = false := beq_eq_false_iff_ne.mpr (by omega)
  have hk1 : ((kd : Int) == 1) = false := beq_eq_false_iff_ne.mpr (by omega)
  have hk2 : ((kd : Int) == 2) = false := beq_eq_false_iff_ne.mpr (by omega)
  have hk5 : ((kd : Int) != 5) = false := bne_eq_false_iff_eq.mpr (by omega)
  have hk4 : ((kd : Int) == 4) = false := beq_eq_false_iff_ne.mpr (by omega)
  have HK := Aside0.mk hk
  clear hk
  have HX0 : Aside0 (KeepB W W.heap.size #[.int .i64 f0, .int .i64 f1, .int .i64 f2, .string f3] (W.alloc (.cells #[.int .i64 f0, .int .i64 f1, .int .i64 f2, .string f3] 28))) := ⟨⟨heap_alloc_new W (.cells #[.int .i64 f0, .int .i64 f1, .int .i64 f2, .string f3] 28), fun _ _ e => blk_alloc e _⟩⟩
  have HQ0 := Aside0.mk (H.out.alloc (.cells #[.int .i64 f0, .int .i64 f1, .int .i64 f2, .string f3] 28))
  obtain ⟨b3, hb3⟩ : ∃ b3, W.heap.size = b3 := ⟨_, rfl⟩
  rw [hb3] at HX0
  clear hpw hkd hpo i0 i1
  go_enter Try.func11, Try.ntmps11
  go_wp2_with (go_at_call 14; refine (HP1.out _).mono ?_)
  rintro e W1 ⟨rfl, m1, rfl⟩
  try rw [hb3]
  clear hb3
  have HX1 := Aside0.mk (HX0.out.drewN m1)
  have HQ1 := Aside0.mk (HQ0.out.drewN m1)
  generalize (W.alloc (.cells #[.int .i64 f0, .int .i64 f1, .int .i64 f2, .string f3] 28)).drewN m1 = W1 at HX1 HQ1 ⊢
  clear HX0 HQ0 HP1
  obtain ⟨z0, z1, z2, z3, _, _, _, _⟩ := bx4 HX1.out.D
  go_wp2_with (go_at_call 14; refine (HP0.out _).mono ?_)
  rintro e W2 ⟨rfl, m2, rfl⟩
  have HX2 := Aside0.mk (HX1.out.drewN m2)
  have HQ2 := Aside0.mk (HQ1.out.drewN m2)
  generalize W1.drewN m2 = W2 at HX2 HQ2 ⊢
  clear HX1 HQ1 HP0 z0 z1 z2 z3
  have hpI : (pw : Int) < 2 := by omega
  have hpI0 : (0 : Int) ≤ (pw : Int) := by omega
  have hoI : (po : Int) < 2 := by omega
  have hoI0 : (0 : Int) ≤ (po : Int) := by omega
  have hqI : (pi : Int) < (n : Int) := by omega
  have hqI0 : (0 : Int) ≤ (pi : Int) := by omega
  obtain ⟨gr, cw, ew, _, hgr, _⟩ := Kd.R_form (HQ2.out.y pw hw2) (by rw [HNN.out]; exact hn0)
  rw [HNN.out] at ew
  have HEW := Aside0.mk ew
  have hcw : n ≤ cw := by
    have h1 := HQ2.out.y pw hw2
    rw [ew] at h1
    exact (Kd.R_reads' h1).2.1
  have HYW : Aside0 (∀ W, PairIs w W B x → W.cell? ⟨B.gw, pw, none⟩ = some (.slice (some ⟨gr, 0, none⟩) n cw)) := ⟨fun W h => by rw [h.at_w pw hw2, HEW.out]⟩
  have HYR : Aside0 (∀ W, PairIs w W B x → kF.R 46 W w.heap.size (fun _ => True) (.slice (some ⟨gr, 0, none⟩) n cw) (x.way pw)) := ⟨fun W h => by have := h.y pw hw2; rw [HEW.out] at this; exact this⟩
  clear ew
  have y0 := HYW.out _ HQ2.out
  obtain ⟨x0, x1, x2, x3, _, _, _, _⟩ := bx4 HQ2.out.X
  obtain ⟨d0, d1, d2, d3, _, _, _, _⟩ := bx4 HX2.out.D
  have HPq : Aside0 (∀ a, _) := ⟨fun a => HP2.out (W2.drewN a)⟩
  clear hn
  go_wp2
  go_quiet (first | (go_at_call 14; with_reducible exact Calls.quiet_of (HPq.out _)) | fail)
  have HX3 := Aside0.mk (HX2.out.drewN nq)
  have HQ3 := Aside0.mk (HQ2.out.drewN nq)
  generalize W2.drewN nq = W3 at HX3 HQ3 ⊢
  clear HX2 HQ2 HPq y0 x0 x1 x2 x3 d0 d1 d2 d3 hgr HP2
  have y0 := HYW.out _ HQ3.out
  obtain ⟨x0, x1, x2, x3, _, _, _, _⟩ := bx4 HQ3.out.X
  obtain ⟨d0, d1, d2, d3, _, _, _, _⟩ := bx4 HX3.out.D
  obtain ⟨q0, q1, q2, q3, q4⟩ := rowF_at (HYR.out _ HQ3.out) pi (by rw [HNN.out]; exact hpn)
  have hfr2 : (x.way pw).getD pi z46 = ⟨a0, a1, a2, a3, a4⟩ := HFR.out
  rw [hfr2] at q0 q1 q2 q3 q4
  dsimp only at q0 q1 q2 q3 q4
  clear hfr2
  have HF4 := Aside0.mk (heap_alloc_new W3 (.cells #[.int .i64 a0, .int .i64 a1, .int .i64 a2, .int .i64 a3, .string a4] 46))
  have HX4 := Aside0.mk (HX3.out.alloc (.cells #[.int .i64 a0, .int .i64 a1, .int .i64 a2, .int .i64 a3, .string a4] 46))
  have HQ4 := Aside0.mk (HQ3.out.alloc (.cells #[.int .i64 a0, .int .i64 a1, .int .i64 a2, .int .i64 a3, .string a4] 46))
  have hb3l := blk_lt HX3.out.D
  go_wp2_with (go_at_call 14; refine (HP0b.out _).mono ?_)
  rintro e W5 ⟨rfl, m5, rfl⟩
  have HWL : Aside0 (∀ j, (B.wv pw).ownBlock = some j → j ≠ W3.heap.size) := ⟨fun j hj => Nat.ne_of_lt (Kd.R_lt (HQ3.out.y pw hw2) j hj)⟩
  have HF5 := Aside0.mk (blk_drewN HF4.out m5)
  have HX5 := Aside0.mk (HX4.out.drewN m5)
  have HQ5 := Aside0.mk (HQ4.out.drewN m5)
  generalize (W3.alloc (.cells #[.int .i64 a0, .int .i64 a1, .int .i64 a2, .int .i64 a3, .string a4] 46)).drewN m5 = W5 at HF5 HX5 HQ5 ⊢
  generalize W3.heap.size = bf at HF5 HWL ⊢
  clear HF4 HX4 HQ4 HX3 HQ3 hb3l y0 x0 x1 x2 x3 d0 d1 d2 d3 q0 q1 q2 q3 q4
  have HX7 := HX5
  have HF7 := HF5
  have HQ7 := HQ5
  have HXM : Aside0 (x.gone pw 5 pi = x) := ⟨by unfold PaM.gone; exact if_pos rfl⟩
  obtain ⟨d0, d1, d2, d3, _, _, _, _⟩ := bx4 HX7.out.D
  go_wp2_with (go_at_call 14; refine (HP0b.out _).mono ?_)
  rintro e W8 ⟨rfl, m8, rfl⟩
  have HX8 := Aside0.mk (HX7.out.drewN m8)
  have HF8 := Aside0.mk (blk_drewN HF7.out m8)
  have HQ8 := Aside0.mk (HQ7.out.drewN m8)
  generalize W5.drewN m8 = W8 at HX8 HF8 HQ8 ⊢
  clear HX7 HF7 HQ7 d0 d1 d2 d3
  obtain ⟨wv8, own8, way8, hq8, hxm⟩ : ∃ wv8 own8 way8, PairIs w W8 { B with wv := wv8, own := own8 } { x with way := way8 } ∧ x.gone pw 5 pi = { x with way := way8 } := ⟨B.wv, B.own, x.way, HQ8.out, HXM.out⟩
  have HQ9 := Aside0.mk hq8
  have HXN := Aside0.mk hxm
  clear hq8 hxm HQ8 HXM
  obtain ⟨l', hl'⟩ : ∃ l', ((x.l pw).take ⟨a0, a1, a2, a3, a4⟩).1 = l' := ⟨_, rfl⟩
  obtain ⟨bs, hbs⟩ : ∃ bs, ((x.l pw).take ⟨a0, a1, a2, a3, a4⟩).2.1 = bs := ⟨_, rfl⟩
  obtain ⟨nb, hnb⟩ : ∃ nb, bs.length = nb := ⟨_, rfl⟩
  have HT3 : Aside0 ((x.l pw).take ⟨a0, a1, a2, a3, a4⟩ = (l', bs, false)) := ⟨by have h1 := HFI.out.1; rw [HFR.out] at h1; rw [← hl', ← hbs, ← h1]⟩
  have HPF : Aside0 ((x.told pw ++ bs) <+: x.sent po) := ⟨by have h1 := HFI.out.2; rw [HFR.out, hbs, HPO.out] at h1; exact h1⟩
  have HNB := Aside0.mk hnb
  have hnb1 : nb ≤ 100000 := by
    have h1 := HPF.out.length_le
    have h2 := hx.out.sent po ho2
    rw [List.length_append] at h1
    omega
  have HXC : Aside0 (x.come pw 5 pi = { x with way := way8, l := upd x.l pw l', told := upd x.told pw (x.told pw ++ bs) }) := ⟨by unfold PaM.come; rw [if_neg (by decide), HXN.out, HFR.out, HT3.out]⟩
  have HC : Aside0 (∀ W, PairIs w W { B with wv := wv8, own := own8 } { x with way := way8 } → Calls Try.prog 18 #[.pointer (some ⟨B.g pw, 0, none⟩), .agg #[.int .i64 a0, .int .i64 a1, .int .i64 a2, .int .i64 a3, .string a4]] W (TakeP W w.heap.size W.heap.size (B.g pw) (B.V pw) l' bs nb)) := ⟨fun W h => by
    have h1 := take_calls _ _ _ _ ⟨a0, a1, a2, a3, a4⟩ W (h.lk pw hw2) (hx.out.l pw hw2) hf0
    rw [show ({ x with way := way8 } : PaM).l pw = x.l pw from rfl, HT3.out] at h1
    rw [← hnb]
    exact h1⟩
  clear hl' hbs hnb hf0
  go_wp2
  have HQd := Aside0.mk HQ9.out.drew
  have HXd := Aside0.mk (HX8.out.drew)
  have HFd := Aside0.mk (blk_drew HF8.out)
  refine start_ (n := 14) (S := fun W => PairS W { B with wv := wv8, own := own8 } b3 #[.int .i64 f0, .int .i64 f1, .int .i64 f2, .string f3] ∧ W.heap[bf]? = some (.cells #[.int .i64 a0, .int .i64 a1, .int .i64 a2, .int .i64 a3, .string a4] 46 (0, 0))) (ds := []) (bz 14 0) (by kernel_rfl) rfl rfl ⟨PairS.of HQd.out HXd.out.D, HFd.out⟩ (fun hHeld => ?_); refine with_tabW tuR.tab12 tuR.bits12 (fun HT_ HW_ => ?_)
  generalize W8.drew = W3 at hHeld HQd HXd HFd ⊢
  refine pu_ 0 (some 86) (bz 14 1) HT_.out ?_
  refine pu_ 1 (some 87) (bz 14 3) HT_.out ?_
  refine pu_ 2 (some 88) (bz 14 7) HT_.out ?_
  refine pu_ 4 (some 90) (bz 14 23) HT_.out ?_
  refine take_ (i := 3) (N := (some 89)) (v := ?_) (a' := ?_) (bz 14 31) rfl rfl (take_ofW HT_.out HW_.out (by kernel_rfl)) (fun _ _ _ h => h) (Or.inl ⟨by rfl, ?_⟩) hHeld ?_ ?_
  rotate_left
  · rintro w' ⟨s0, s1⟩
    obtain ⟨x0, x1, x2, x3, _, _, _, _⟩ := bx4 s0.X
    go_simp
    with_reducible rfl
  rotate_left
  · simp only [Act.put, sl1, sl2, sl3, i64_w, i32_w]
    rfl
  refine pu_ 5 (some 91) (bz 14 63) HT_.out ?_
  refine take_ (i := 6) (N := (some 92)) (v := ?_) (a' := ?_) (bz 14 127) rfl rfl (take_ofW HT_.out HW_.out (by kernel_rfl)) (fun _ _ _ h => h) (Or.inl ⟨by rfl, ?_⟩) hHeld ?_ ?_
  rotate_left
  · rintro w' ⟨s0, s1⟩
    have y0 := s0.at_l pw hw2
    go_simp
    with_reducible rfl
  rotate_left
  · simp only [Act.put, sl1, sl2, sl3, i64_w, i32_w]
    rfl
  refine take_ (i := 7) (N := (some 93)) (v := ?_) (a' := ?_) (bz 14 255) rfl rfl (take_ofW HT_.out HW_.out (by kernel_rfl)) (fun _ _ _ h => h) (Or.inl ⟨by rfl, ?_⟩) hHeld ?_ ?_
  rotate_left
  · rintro w' ⟨s0, s1⟩
    obtain ⟨f0_, f1_, f2_, f3_, f4_, _, _, _, _, _⟩ := bx5 s1
    go_simp
    with_reducible rfl
  rotate_left
  · simp only [Act.put, sl1, sl2, sl3, i64_w, i32_w]
    rfl
  refine one_ (i := 8) (N := (some 94)) (bz 14 511) rfl rfl (one_of HT_.out (by kernel_rfl)) (by decide) (fun K hK => ?_)
  refine goes_ Try.func18 (by kernel_rfl) rfl #[.pointer (some ⟨B.g pw, 0, none⟩), .agg #[.int .i64 a0, .int .i64 a1, .int .i64 a2, .int .i64 a3, .string a4]] (by rfl) rfl rfl am ?_
  refine (HC.out _ HQd.out).mono ?_
  rintro e w1 ⟨Ab, cb, rfl, hR, V1, hA, hO⟩
  refine ⟨_, rfl, ?_⟩
  have HQ4 := Aside0.mk (HQd.out.deed pw hw2 hA hO)
  have HX4 := Aside0.mk (HXd.out.deed hO (HQd.out.lk pw hw2))
  have HF4 := Aside0.mk (hO.box (HQd.out.lk pw hw2) hHeld.2 (by decide) (by decide))
  have HCO := Aside0.mk (Kd.R_reads' hR).2.2
  clear hR
  refine hK.out _ _ ⟨(PairS.of HQ4.out HX4.out.D).cast, HF4.out⟩ (fun hHeld => ?_)
  clear hK K
  refine norm_ (a' := ?_) ?_ ?_
  rotate_left
  · show Act.put _ (some 94) _ = _
    simp only [Act.put, sl1, sl2, sl3, i64_w, i32_w]
    rfl
  refine pu_ 9 (some 85) (bz 14 1023) HT_.out ?_
  refine pu_ 10 (some 95) (bz 14 2047) HT_.out ?_
  refine pu_ 11 (some 96) (bz 14 4095) HT_.out ?_
  refine pu_ 12 (some 9) (bz 14 8191) HT_.out ?_
  refine pu_ 13 (some 10) (bz 14 16383) HT_.out ?_
  refine done_ (done_of HT_.out (by kernel_rfl)) ?_
  clear HT_ HW_ hHeld hA hO HQd HXd HFd HQ9 HX8 HF8 HC HF4
  go_wp2
  have HQ5 := Aside0.mk HQ4.out.drew
  have HX5 := Aside0.mk (HX4.out.drew)
  have HCO5 : Aside0 (Kd.string.C w1.drew Ab nb bs) := ⟨by have h1 := Kd.C_drew HCO.out; rw [HNB.out] at h1; exact h1⟩
  clear HQ4 HX4 HCO
  refine start_ (n := 16) (S := fun W => PairS W { B with wv := wv8, own := own8, V := upd B.V pw V1 } b3 #[.int .i64 f0, .int .i64 f1, .int .i64 f2, .string f3]) (ds := [15]) (bz 16 0) (by kernel_rfl) rfl rfl (PairS.of HQ5.out HX5.out.D) (fun hHeld => ?_); refine with_tabW tuR.tab13 tuR.bits13 (fun HT_ HW_ => ?_)
  generalize World.drew _ = W5 at hHeld HQ5 HX5 HCO5 ⊢
  refine pu_ 0 (some 97) (bz 16 1) HT_.out ?_
  refine pu_ 1 (some 98) (bz 16 3) HT_.out ?_
  refine pu_ 2 (some 99) (bz 16 7) HT_.out ?_
  refine pu_ 4 (some 101) (bz 16 23) HT_.out ?_
  refine pu_ 5 (some 102) (bz 16 55) HT_.out ?_
  refine pu_ 6 (some 103) (bz 16 119) HT_.out ?_
  refine pu_ 7 (some 104) (bz 16 247) HT_.out ?_
  refine pu_ 9 (some 106) (bz 16 759) HT_.out ?_
  refine pu_ 12 (some 109) (bz 16 4855) HT_.out ?_
  refine take_ (i := 3) (N := (some 100)) (v := ?_) (a' := ?_) (bz 16 4863) rfl rfl (take_ofW HT_.out HW_.out (by kernel_rfl)) (fun _ _ _ h => h) (Or.inl ⟨by rfl, ?_⟩) hHeld ?_ ?_
  rotate_left
  · rintro w' s0
    obtain ⟨x0, x1, x2, x3, _, _, _, _⟩ := bx4 s0.X
    go_simp
    with_reducible rfl
  rotate_left
  · simp only [Act.put, sl1, sl2, sl3, i64_w, i32_w]
    rfl
  refine take_ (i := 8) (N := (some 105)) (v := ?_) (a' := ?_) (bz 16 5119) rfl rfl (take_ofW HT_.out HW_.out (by kernel_rfl)) (fun _ _ _ h => h) (Or.inl ⟨by rfl, ?_⟩) hHeld ?_ ?_
  rotate_left
  · rintro w' s0
    obtain ⟨x0, x1, x2, x3, _, _, _, _⟩ := bx4 s0.X
    go_simp
    with_reducible rfl
  rotate_left
  · simp only [Act.put, sl1, sl2, sl3, i64_w, i32_w]
    rfl
  refine pu_ 10 (some 107) (bz 16 6143) HT_.out ?_
  refine take_ (i := 11) (N := (some 108)) (v := ?_) (a' := ?_) (bz 16 8191) rfl rfl (take_ofW HT_.out HW_.out (by kernel_rfl)) (fun _ _ _ h => h) (Or.inl ⟨by rfl, ?_⟩) hHeld ?_ ?_
  rotate_left
  · rintro w' s0
    have y0 := s0.at_t pw hw2
    go_simp
    with_reducible rfl
  rotate_left
  · simp only [Act.put, sl1, sl2, sl3, i64_w, i32_w]
    rfl
  refine one_ (i := 13) (N := (some 110)) (bz 16 16383) rfl rfl (one_of HT_.out (by kernel_rfl)) (by decide) (fun K hK => ?_)
  refine Kd.R_append_rows_step Kd.string (Rr := Kd.string.K W5) (w0 := w) w.heap.size (by rfl) (.tmp 108) (.tmp 109) 36 9 (.string ⟨#[]⟩) 16 rfl Try.underlying36 infoS rfl (by decide) (by omega) (B.tv pw) (x.told pw) bs Ab nb cb (fun _ => True) (fun _ => False) rfl rfl ?aO ?aR (fun _ _ h => h) (fun _ h => h.elim) ?aF ?aB ?aS ?aL ?_
  case aR => exact HCO5.out
  case aF => exact (fun _ _ => trivial)
  case aO => exact HQ5.out.t pw hw2
  case aB => exact HQ5.out.two.Bl
  case aS => exact HQ5.out.two.Bl.size
  case aL => have h1_ := hx.out.told pw hw2; omega
  intro v6 w6 ho hb hg hat
  obtain ⟨Av, cv, ev⟩ := Kd.R_slice ho
  obtain ⟨nt, hnt⟩ : ∃ nt, (x.told pw ++ bs).length = nt := ⟨_, rfl⟩
  rw [hnt] at ev
  subst ev
  obtain ⟨hsl, hsf⟩ := slot_at HQ5.out.T hg (Kd.R_ne (HQ5.out.t pw hw2) HQ5.out.T (by decide)) hw2
  have HXF := Aside0.mk (fun v => (HX5.out.grown (HQ5.out.t pw hw2) hg (by decide)).put (blk_grown HQ5.out.T hg (Kd.R_ne (HQ5.out.t pw hw2) HQ5.out.T (by decide))) (by decide) pw v)
  have HSF := Aside0.mk (HQ5.out.told_grew pw hw2 ho (Only.rowOf hg) (hat_of hat))
  have HNT := Aside0.mk hnt
  clear hnt
  refine hK.out _ _ ((PairS.of HQ5.out HX5.out.D).row (HQ5.out.t pw hw2) hg (.inl rfl)) (fun hHeld => ?_)
  clear hK K
  refine norm_ (a' := ?_) ?_ ?_
  rotate_left
  · show Act.put _ (some 110) _ = _
    simp only [Act.put, sl1, sl2, sl3, i64_w, i32_w]
    rfl
  refine pu_ 14 (some 111) (bz 16 32767) HT_.out ?_
  refine last_ (i := 15) (N := none) (bz 16 65535) rfl rfl (one_of HT_.out (by kernel_rfl)) (by decide) (fun K hK => ?_)
  refine skip_ (w1 := ?_) (by rfl) rfl ?_ ?_
  rotate_left
  · go_simp
    rfl
  refine hK.out _ _ ?_
  clear hK K
  refine done_ (done_of HT_.out (by kernel_rfl)) ?_
  have HNS : Aside0 (nt ≤ (x.sent po).length) := ⟨by have h1 := HPF.out.length_le; rw [HNT.out] at h1; exact h1⟩
  have HYC : Aside0 (x.come pw 5 pi = _) := HXC
  obtain ⟨y, hy⟩ : ∃ y, x.come pw 5 pi = y := ⟨_, rfl⟩
  have HYE := Aside0.mk hy
  obtain ⟨V9, own9, hq9⟩ : ∃ V9 own9, PairIs w (w6.setCell ⟨B.gt, pw, none⟩ (.slice Av nt cv)) { B with V := V9, wv := wv8, tv := upd B.tv pw (.slice Av nt cv), own := own9 } y := ⟨_, _, by rw [← hy, HXC.out]; exact HSF.out⟩
  have HQ9 := Aside0.mk hq9
  clear HT_ HW_ hHeld HSF HYC hy hq9 hsl hsf ho hb hg hat HCO5 HQ5 HX5
  have HX9 := Aside0.mk (HXF.out (.slice Av nt cv))
  clear HXF
  generalize w6.setCell ⟨B.gt, pw, none⟩ (.slice Av nt cv) = W9 at HQ9 HX9 ⊢
  obtain ⟨As, cs, es, _, hCs⟩ := Kd.R_reads (HQ9.out.s po ho2)
  have hys : y.sent po = x.sent po := by rw [← HYE.out, HXC.out]
  have hyt : y.told pw = x.told pw ++ bs := by rw [← HYE.out, HXC.out]; exact upd_same _ _ _
  have HYT := Aside0.mk hyt
  obtain ⟨ns, hns⟩ : ∃ ns, (x.sent po).length = ns := ⟨_, rfl⟩
  have hle : nt ≤ ns := by rw [← hns]; exact HNS.out
  rw [hys, hns] at es
  have HSV : Aside0 (∀ W, PairIs w W { B with V := V9, wv := wv8, tv := upd B.tv pw (.slice Av nt cv), own := own9 } y → W.cell? ⟨B.gs, po, none⟩ = some (.slice As ns cs)) := ⟨fun W h => by rw [h.at_s po ho2, ← es]⟩
  have HTV : Aside0 (∀ W, PairIs w W { B with V := V9, wv := wv8, tv := upd B.tv pw (.slice Av nt cv), own := own9 } y → W.cell? ⟨B.gt, pw, none⟩ = some (.slice Av nt cv)) := ⟨fun W h => by rw [h.at_t pw hw2]; exact congrArg some (upd_same _ _ _)⟩
  have HYS := Aside0.mk hys
  have HNS2 := Aside0.mk hns
  have HES := Aside0.mk es
  clear es hys hns hyt hCs
  obtain ⟨x0, x1, x2, x3, _, _, _, _⟩ := bx4 HQ9.out.X
  have y0 := HTV.out _ HQ9.out
  have y1 := HSV.out _ HQ9.out
  have hcmp : decide ((ns : Int) < (nt : Int)) = false := decide_eq_false (by omega)
  have hcmp2 : ¬ (ns < nt) := by omega
  clear hle
  go_wp2
  go_quiet (fail)
  have HQA := Aside0.mk (HQ9.out.drewN nq)
  have HXA := Aside0.mk (HX9.out.drewN nq)
  generalize W9.drewN nq = WA at HQA HXA ⊢
  clear HX9 HQ9 x0 x1 x2 x3 y0 y1
  go_wp2
  clear hcmp hcmp2
  go_loopg [11] (nt + 1) (fun kq v11 W_ => ∃ (j : Nat), j ≤ nt ∧ v11 = .int .i64 (j : Int) ∧ nt - j < kq ∧ Aside0 (PairIs w W_ { B with V := V9, wv := wv8, tv := upd B.tv pw (.slice Av nt cv), own := own9 } y) ∧ Aside0 (KeepB W b3 #[.int .i64 f0, .int .i64 f1, .int .i64 f2, .string f3] W_))
  case atStart => exact ⟨0, Nat.zero_le _, rfl, by omega, HQA, HXA⟩
  case round =>
    obtain ⟨j, hj, rfl, hq, HQ, HXJ⟩ := hrel
    clear HQA HXA
    obtain ⟨x0, x1, x2, x3, _, _, _, _⟩ := bx4 HQ.out.X
    have y0 := HTV.out _ HQ.out
    have y1 := HSV.out _ HQ.out
    by_cases hjl : j < nt
    · have hjs : j < ns := by have h1 := HNS.out; rw [HNS2.out] at h1; omega
      have h2 : Kd.string.C wr Av (y.told pw).length (y.told pw) := by
        have h := HQ.out.t pw hw2
        rw [show ({ B with V := V9, wv := wv8, tv := upd B.tv pw (.slice Av nt cv), own := own9 } : PB).tv pw = .slice Av nt cv from upd_same _ _ _] at h
        exact (Kd.R_reads' h).2.2
      have h3 : Kd.string.C wr As (y.sent po).length (y.sent po) := by
        have h := HQ.out.s po ho2
        rw [show ({ B with V := V9, wv := wv8, tv := upd B.tv pw (.slice Av nt cv), own := own9 } : PB).sv po = .slice As ns cs from HES.out] at h
        exact (Kd.R_reads' h).2.2
      obtain ⟨ad, e0, hs1⟩ := Kd.at_string h2 (j : Int) (by omega) (by rw [HYT.out, HNT.out]; omega)
      obtain ⟨ad2, e2, hs2⟩ := Kd.at_string h3 (j : Int) (by omega) (by rw [HYS.out, HNS2.out]; omega)
      rw [show rdOf ByteArray.empty (y.told pw) (j : Int) = rdOf ByteArray.empty (y.sent po) (j : Int) from by
        rw [HYT.out, HYS.out]
        exact rdOf_prefix HPF.out j (by rw [HNT.out]; exact hjl)] at hs1
      rw [show ((j : Int)).toNat = j from rfl] at hs1 hs2
      generalize rdOf ByteArray.empty (y.sent po) (j : Int) = st at hs1 hs2
      rw [e0] at y0
      rw [e2] at y1
      clear h2 h3 e0 e2
      have hst2 : (st.toList != st.toList) = false := bne_self_eq_false st.toList
      have hjI : (j : Int) < (nt : Int) := by omega
      have hjI2 : (j : Int) < (ns : Int) := by omega
      have hjI0 : (0 : Int) ≤ (j : Int) := by omega
      have hnt1 : nt ≤ 100000 := by
        have h1 := hx.out.sent po ho2
        have h2 := HNS.out
        omega
      go_wp2
      go_quiet (fail)
      go_wp2
      go_roundg (nt - j)
      case rel => exact ⟨j + 1, by omega, by first | go_num | (congr 1; omega) | rfl, by omega, ⟨HQ.out.drewN _⟩, ⟨HXJ.out.drewN _⟩⟩
      case measure => omega
    · have hd3 : decide ((j : Int) < (nt : Int)) = false := decide_eq_false (by omega)
      go_wp2
      go_ret
      exact turnPost (HE.out.trans HYE.out) HQ.out ⟨rfl, rfl, rfl, rfl, rfl, rfl⟩ HXJ.out
/-- A turn. -/
theorem turn_calls (w W : World) (B : PB) (x : PaM) (t : TurnT) (i0 : inB t.f0 = true) (i1 : inB t.f1 = true) (i2 : inB t.f2 = true) (H : PairIs w W B x) (hx : x.Ok) (hf : x.fine t) :
    Calls Try.prog 11 #[.pointer (some ⟨B.gx, 0, none⟩), .agg #[.int .i64 t.f0, .int .i64 t.f1, .int .i64 t.f2, .string t.f3]] W (TurnPost w W B (x.turn t)) := by
  obtain ⟨f0, f1, f2, f3⟩ := t
  dsimp only at i0 i1 i2 ⊢
  have hk6 : pickN f0 6 < 6 := pickN_lt f0 6 (by decide)
  by_cases h0 : pickN f0 6 = 0
  · by_cases hs : ((x.l (pickN f1 2)).send f3).2 = 0
    · exact turn_sendok w W B x f0 f1 f2 f3 i0 i1 i2 ⟨H⟩ ⟨hx⟩ _ ⟨rfl⟩ h0 hs
    · exact turn_sendno w W B x f0 f1 f2 f3 i0 i1 i2 ⟨H⟩ ⟨hx⟩ _ ⟨rfl⟩ h0 hs
  · by_cases h1 : pickN f0 6 = 1
    · exact turn_out w W B x f0 f1 f2 f3 i0 i1 i2 ⟨H⟩ ⟨hx⟩ _ ⟨rfl⟩ h1
    · by_cases h2 : pickN f0 6 = 2
      · exact turn_tick w W B x f0 f1 f2 f3 i0 i1 i2 ⟨H⟩ ⟨hx⟩ _ ⟨rfl⟩ h2
      · by_cases hn : x.way (pickN f1 2) = []
        · exact turn_none w W B x f0 f1 f2 f3 i0 i1 i2 ⟨H⟩ ⟨hx⟩ _ ⟨rfl⟩ (by omega) hn
        · by_cases h3 : pickN f0 6 = 3
          · exact turn_come w W B x f0 f1 f2 f3 i0 i1 i2 ⟨H⟩ ⟨hx⟩ _ ⟨rfl⟩ h3 hn hf
          · by_cases h4 : pickN f0 6 = 4
            · exact turn_lost w W B x f0 f1 f2 f3 i0 i1 i2 ⟨H⟩ ⟨hx⟩ _ ⟨rfl⟩ h4 hn
            · exact turn_twice w W B x f0 f1 f2 f3 i0 i1 i2 ⟨H⟩ ⟨hx⟩ _ ⟨rfl⟩ (by omega) hn hf

end Go.Proofs.Ytdpogggajdfedaa.P
