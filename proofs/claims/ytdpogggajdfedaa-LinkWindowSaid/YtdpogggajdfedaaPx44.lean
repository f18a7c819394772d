import Derived.Test.YtdpogggajdfedaaLinkN
import Derived.Outline
import Derived.Laws.BitsAllLaws
import Derived.WalkSpells
import Derived.StillTailTactics
namespace Go.Proofs.Ytdpogggajdfedaa.P
open Go.RowKit Go.Proofs.YtdpogggajdfedaaW.PrintWords Go.Proofs.YtdpogggajdfedaaW.PrintLast Go.Proofs.YtdpogggajdfedaaW.PrintMore
attribute [local go_sem] max2_int min2_int max_two min_two max_three min_three max_four min_four
set_option linter.unusedVariables false
set_option linter.unusedSimpArgs false
attribute [local go_sem high] eqA46
def carillonlaw09_LinkWindow.f (l0 : List TurnT) : Option Bool :=
  if (l0.all fun x => inB x.f0 && inB x.f1 && inB x.f2) = true then some true else none
set_option maxHeartbeats 16000000 in
set_option maxRecDepth 100000 in
theorem carillonlaw09_LinkWindow.calls (A0 : Option Addr) (c0 : Nat) (l0 : List TurnT) (r : Bool) (w : World) (hr0 : Kd.C k28 w A0 l0.length l0) (hc0 : l0.length ≤ c0) (hr_ : Aside0 (r = true)) (h : carillonlaw09_LinkWindow.f l0 = some r) :
    Calls Try.prog 7 #[.slice A0 l0.length c0] w fun e w' => e = .returned (.bool r) ∧ Below w.heap.size w w' := by
  obtain rfl := hr_.out
  unfold carillonlaw09_LinkWindow.f at h
  split at h
  case isFalse => exact absurd h (by simp)
  rename_i hi0
  have HI0 := Aside0.mk hi0
  have HR0 := Aside0.mk hr0
  have hm0 := hr0.2.1
  clear hr0 hi0 h hr_
  go_enter Try.func7, Try.ntmps7
  go_wp2_with (go_at_call 9; refine (examples_calls w).mono ?_)
  rintro e W1 ⟨rfl, hB1⟩
  have HB1 := Aside0.mk hB1
  clear hB1
  go_wp2_with (go_at_call 10; refine (begin_calls W1).mono ?_)
  rintro e W2 ⟨B0, rfl, hP⟩
  have HP0 := Aside0.mk (hP.base HB1.out)
  obtain ⟨gx, hgx⟩ : ∃ gx, B0.gx = gx := ⟨_, rfl⟩
  rw [hgx]
  clear hP
  go_wp2
  go_loopg [5, 6, 7, 8, 9, 10, 11, 12, 13] (l0.length + 1) (fun kq v5 v6 v7 v8 v9 v10 v11 v12 v13 W => ∃ (i : Nat) (x : PaM) (B : PB), i ≤ l0.length ∧ i ≤ 200 ∧ v5 = .int .i64 (i : Int) ∧ l0.length - i < kq ∧ B.gx = gx ∧ Aside0 (PairIs w W B x) ∧ Aside0 (InvP i x))
  case atStart => exact ⟨0, PaM.start, B0, Nat.zero_le _, Nat.zero_le _, rfl, by omega, hgx, HP0, ⟨InvP.start⟩⟩
  case round =>
    obtain ⟨i, x, B, hi, hi3, rfl, hq, hgB, HX, HI⟩ := hrel
    clear HP0 hgx
    by_cases hlt : i < l0.length ∧ i < 200
    · obtain ⟨hl, hl3⟩ := hlt
      have hdc : decide ((i : Int) < 200) = true := decide_eq_true (by omega)
      obtain ⟨ad, e0, ht0, ht1, ht2, ht3⟩ := at_T28 (Kd.C_below HR0.out HX.out.two.Bl) (i : Int) (by omega) (by omega)
      cases e0
      have hyb := all_rdT HI0.out i hl
      rw [show ((i : Int)).toNat = i from rfl] at ht0 ht1 ht2 ht3
      obtain ⟨y, hy⟩ : ∃ y, rd_T28 l0 (i : Int) = y := ⟨_, rfl⟩
      rw [hy] at ht0 ht1 ht2 ht3 hyb
      clear hy
      obtain ⟨y0, y1, y2, y3⟩ := y
      dsimp only at ht0 ht1 ht2 ht3 hyb
      subst hgB
      obtain ⟨pw, hpw⟩ : ∃ pw, pickN y1 2 = pw := ⟨_, rfl⟩
      obtain ⟨kd, hkd⟩ : ∃ kd, pickN y0 6 = kd := ⟨_, rfl⟩
      have hw2 : pw < 2 := by rw [← hpw]; exact pickN_lt y1 2 (by decide)
      have hk6 : kd < 6 := by rw [← hkd]; exact pickN_lt y0 6 (by decide)
      obtain ⟨po, hpo⟩ : ∃ po, 1 - pw = po := ⟨_, rfl⟩
      have ho2 : po < 2 := by omega
      have HPO := Aside0.mk hpo
      have HP1 := Aside0.mk (fun W => pick_calls y1 2 W hyb.2.1 (by decide) (by decide))
      have HP0 := Aside0.mk (fun W => pick_calls y0 6 W hyb.1 (by decide) (by decide))
      simp only [hpw] at HP1
      simp only [hkd] at HP0
      have HKD := Aside0.mk hkd
      have HPW := Aside0.mk hpw
      have hpoI : (1 : Int) - (pw : Int) = (po : Int) := by omega
      have HYB := Aside0.mk hyb
      clear hyb hpw hkd hpo
      have HK0 := Aside0.mk (heap_alloc_new wr (.cells #[.int .i64 y0, .int .i64 y1, .int .i64 y2, .string y3] 28))
      have HX0 := Aside0.mk (HX.out.alloc (.cells #[.int .i64 y0, .int .i64 y1, .int .i64 y2, .string y3] 28))
      clear HX
      obtain ⟨bt, hbt⟩ : ∃ bt, wr.heap.size = bt := ⟨_, rfl⟩
      rw [hbt] at HK0
      go_wp2_with (go_at_call 14; refine (HP1.out _).mono ?_)
      rintro e W3 ⟨rfl, m1, rfl⟩
      try rw [hbt]
      clear hbt ht0 ht1 ht2 ht3
      have HK1 := Aside0.mk (blk_drewN HK0.out m1)
      have HX1 := Aside0.mk (HX0.out.drewN m1)
      generalize (wr.alloc (.cells #[.int .i64 y0, .int .i64 y1, .int .i64 y2, .string y3] 28)).drewN m1 = W3 at HK1 HX1 ⊢
      clear HK0 HX0 HP1
      obtain ⟨z0, z1, z2, z3, _, _, _, _⟩ := bx4 HK1.out
      obtain ⟨x0, x1, x2, x3, _, _, _, _⟩ := bx4 HX1.out.X
      obtain ⟨nw, hnw⟩ : ∃ nw, (x.l pw).wait.length = nw := ⟨_, rfl⟩
      have HNW := Aside0.mk hnw
      have HWA : Aside0 (Calls Try.prog 12 #[.pointer (some ⟨B.g pw, 0, none⟩)] W3 fun e w' => e = .returned (.int .i64 (nw : Int)) ∧ w' = W3) := ⟨by have h := waiting_calls _ _ _ _ W3 (HX1.out.lk pw hw2); rw [hnw] at h; exact h⟩
      have HTU := Aside0.mk (turn_nextK ⟨y0, y1, y2, y3⟩ HYB.out rfl HX1.out HI.out (by omega))
      dsimp only at HTU
      obtain ⟨Aw, cw, ew, _, _⟩ := Kd.R_reads (HX1.out.y po ho2)
      obtain ⟨nb, hnb⟩ : ∃ nb, (x.way po).length = nb := ⟨_, rfl⟩
      have HNB := Aside0.mk hnb
      have v0 := HX1.out.at_w po ho2
      rw [ew, hnb] at v0
      have v1 := HX1.out.at_l pw hw2
      have hpI : (pw : Int) < 2 := by omega
      have hoI : (po : Int) < 2 := by omega
      have hpI0 : (0 : Int) ≤ (pw : Int) := by omega
      have hoI0 : (0 : Int) ≤ (po : Int) := by omega
      clear hnw hnb ew
      go_wp2_with (first | (go_at_call 12; refine HWA.out.mono ?_) | (go_at_call 11; refine HTU.out.mono ?_))
      rintro e W4 ⟨rfl, rfl⟩
      go_wp2_with (go_at_call 11; refine HTU.out.mono ?_)
      rintro e W5 ⟨rfl, B5, hB5, HX5, HI5, hK5⟩
      have HK5 := Aside0.mk (hK5.out _ _ HK1.out)
      clear HWA HTU HK1 HX1 v0 v1 z0 z1 z2 z3 x0 x1 x2 x3 hK5
      obtain ⟨y5, hy5⟩ : ∃ y5, x.turn ⟨y0, y1, y2, y3⟩ = y5 := ⟨_, rfl⟩
      have HY5 := Aside0.mk hy5
      rw [hy5] at HX5 HI5
      clear hy5
      obtain ⟨n5, hn5⟩ : ∃ n5, (y5.l pw).wait.length = n5 := ⟨_, rfl⟩
      have h32 : n5 ≤ 32 := by rw [← hn5]; exact (HI5.out.ok pw hw2).w
      have hd32 : decide ((32 : Int) < (n5 : Int)) = false := decide_eq_false (by omega)
      have HWB : Aside0 (Calls Try.prog 12 #[.pointer (some ⟨B5.g pw, 0, none⟩)] W5 fun e w' => e = .returned (.int .i64 (n5 : Int)) ∧ w' = W5) := ⟨by have h := waiting_calls _ _ _ _ W5 (HX5.out.lk pw hw2); rw [hn5] at h; exact h⟩
      obtain ⟨x0, x1, x2, x3, _, _, _, _⟩ := bx4 HX5.out.X
      rw [hB5] at x0 x1 x2 x3
      have v1 := HX5.out.at_l pw hw2
      clear hn5 h32
      go_wp2_with (go_at_call 12; refine HWB.out.mono ?_)
      rintro e W6 ⟨rfl, rfl⟩
      obtain ⟨z0, z1, z2, z3, _, _, _, _⟩ := bx4 HK5.out
      go_wp2_with (go_at_call 14; refine (HP0.out _).mono ?_)
      rintro e W7 ⟨rfl, m7, rfl⟩
      have HX7 := Aside0.mk (HX5.out.drewN m7)
      generalize W6.drewN m7 = W7 at HX7 ⊢
      clear HX5 HK5 HWB v1 x0 x1 x2 x3 z0 z1 z2 z3 hd32 HP0
      by_cases hk1 : kd = 1
      · have hout : y5 = x.outM pw := by rw [← HY5.out]; unfold PaM.turn; simp [HKD.out, hk1, HPW.out]
        have HYO := Aside0.mk hout
        have hk1c : ((kd : Int) != 1) = false := bne_eq_false_iff_eq.mpr (by omega)
        have hE := HI.out.en pw hw2
        obtain ⟨ns, hns⟩ : ∃ ns, (x.sent pw).length = ns := ⟨_, rfl⟩
        obtain ⟨ak, hak⟩ : ∃ ak, (x.l pw).acked = ak := ⟨_, rfl⟩
        have hal : (ns : Int) - (nw : Int) = ak := by have := hE.al; rw [hns, HNW.out, hak] at this; omega
        have hak0 : 0 ≤ ak := by rw [← hak]; exact hE.a0
        have HNS := Aside0.mk hns
        have HAK := Aside0.mk hak
        have hsl : ns ≤ 200 := by rw [← hns]; have := HI.out.sl pw hw2; omega
        obtain ⟨As, cs, es, _, _⟩ := Kd.R_reads (HX7.out.s pw hw2)
        have hys : y5.sent pw = x.sent pw := by rw [hout]; rfl
        have HYS := Aside0.mk hys
        rw [hys, hns] at es
        obtain ⟨x0, x1, x2, x3, _, _, _, _⟩ := bx4 HX7.out.X
        rw [hB5] at x0 x1 x2 x3
        have v2 := HX7.out.at_s pw hw2
        rw [es] at v2
        have HES := Aside0.mk es
        have hak1 : ak ≤ 200 := by omega
        obtain ⟨n1, hn1⟩ : ∃ n1, (y5.way po).length = n1 := ⟨_, rfl⟩
        have hyw : y5.way po = x.way po ++ (x.l pw).outs.2 := by rw [hout, ← HPO.out]; exact upd_same _ _ _
        have HYW := Aside0.mk hyw
        have HN1 := Aside0.mk hn1
        have hnb1 : nb ≤ n1 := by rw [← hn1, hyw, List.length_append, HNB.out]; omega
        have hn1b : n1 ≤ 10000 := by rw [← hn1]; have := HI5.out.wl po ho2; omega
        obtain ⟨Aw1, cw1, ew1, hcw1, _⟩ := Kd.R_reads (HX7.out.y po ho2)
        rw [hn1] at ew1 hcw1
        have HEW := Aside0.mk ew1
        have hyt : y5.told pw = x.told pw := by rw [hout]; rfl
        obtain ⟨nt, hnt⟩ : ∃ nt, (x.told pw).length = nt := ⟨_, rfl⟩
        obtain ⟨At, ct, et, _, _⟩ := Kd.R_reads (HX7.out.t pw hw2)
        rw [hyt, hnt] at et
        have HET := Aside0.mk et
        have hyl : y5.l pw = (x.l pw).outs.1 := by rw [hout]; exact upd_same _ _ _
        obtain ⟨pe, hpe⟩ : ∃ pe, (x.l pw).peer = pe := ⟨_, rfl⟩
        have hype : (y5.l pw).peer = pe := by rw [hyl, ← hpe]; rfl
        have HYPE := Aside0.mk hype
        have HFRM : Aside0 (∀ f, f ∈ (x.l pw).outs.2 → f.f0 = 3 + 2 * (pw : Int) ∧ f.f1 = pe ∧ f.f3 = (nt : Int) ∧ (f.f2 = 0 ∨ ∃ j : Nat, j < 8 ∧ f.f2 = ak + 1 + (j : Int) ∧ f.f2 ≤ (ns : Int) ∧ f.f4 = rdOf ByteArray.empty (x.sent pw) (f.f2 - 1))) := ⟨fun f hf => by
          obtain ⟨g0, g1, g3, g2⟩ := outs_mem hf
          refine ⟨by rw [g0]; exact hE.ep, by rw [g1, hpe], ?_, ?_⟩
          · rw [g3, ← hnt, hE.td, List.length_take]
            have := hE.tl
            have := hE.t0
            omega
          · rcases g2 with ⟨g2, -⟩ | ⟨_, j, b, hj, hb, _, g2, g4⟩
            · exact .inl g2
            · have hs := hE.body hb
              have hlt := (List.getElem?_eq_some_iff.1 hs).1
              rw [hak] at g2 hs hlt
              refine .inr ⟨j, hj, g2, by omega, ?_⟩
              unfold rdOf
              rw [g4, g2, show (ak + 1 + (j : Int) - 1).toNat = ak.toNat + j by omega, List.getD_eq_getElem?_getD, hs]
              rfl⟩
        clear hk1 hout hE hns hak es hys hn1 hyw ew1 hyt hnt et hyl hpe hype
        go_wp2
        clear x0 x1 x2 x3 v2
        go_loopg [12, 13] (n1 + 1) (fun kq v12 v13 W => ∃ (k : Nat), nb ≤ k ∧ k ≤ n1 ∧ v12 = .int .i64 (k : Int) ∧ n1 - k < kq ∧ Aside0 (PairIs w W B5 y5))
        case atStart => exact ⟨nb, Nat.le_refl _, hnb1, rfl, by omega, HX7⟩
        case round =>
          obtain ⟨k, hk0, hk1, rfl, hqk, HX8⟩ := hrel
          clear HX7
          obtain ⟨x0, x1, x2, x3, _, _, _, _⟩ := bx4 HX8.out.X
          rw [hB5] at x0 x1 x2 x3
          have v0 := HX8.out.at_w po ho2
          rw [HEW.out] at v0
          by_cases hkl : k < n1
          · have hC8 : kF.C wr Aw1 (y5.way po).length (y5.way po) := by
              have h := HX8.out.y po ho2
              rw [HEW.out] at h
              exact (Kd.R_reads' h).2.2
            obtain ⟨adf, ef, q0, q1, q2, q3, q4⟩ := at_T46 hC8 (k : Int) (by omega) (by rw [HN1.out]; omega)
            rw [show ((k : Int)).toNat = k from rfl] at q0 q1 q2 q3 q4
            have hfm : rd_T46 (y5.way po) (k : Int) ∈ (x.l pw).outs.2 := by
              unfold rd_T46
              rw [HYW.out, show ((k : Int)).toNat = k from rfl, List.getD_eq_getElem?_getD, List.getElem?_append_right (by rw [HNB.out]; exact hk0), List.getElem?_eq_getElem (by have := HN1.out; rw [HYW.out, List.length_append, HNB.out] at this; rw [HNB.out]; omega)]
              exact List.getElem_mem _
            obtain ⟨g0, g1, g3, g2⟩ := HFRM.out _ hfm
            clear hfm hC8
            generalize rd_T46 (y5.way po) (k : Int) = f at q0 q1 q2 q3 q4 g0 g1 g2 g3
            obtain ⟨f0, f1, f2, f3, f4⟩ := f
            dsimp only at q0 q1 q2 q3 q4 g0 g1 g2 g3
            rw [g0] at q0
            rw [g1] at q1
            rw [g3] at q3
            clear g0 g1 g3
            rw [ef] at v0
            have HEF := Aside0.mk ef
            have HG2 := Aside0.mk g2
            clear ef g2
            have HXB := Aside0.mk (heap_alloc_new wr (.cells #[.int .i64 (3 + 2 * (pw : Int)), .int .i64 pe, .int .i64 f2, .int .i64 (nt : Int), .string f4] 46))
            have HXP := Aside0.mk (HX8.out.alloc (.cells #[.int .i64 (3 + 2 * (pw : Int)), .int .i64 pe, .int .i64 f2, .int .i64 (nt : Int), .string f4] 46))
            obtain ⟨bf, hbf⟩ : ∃ bf, wr.heap.size = bf := ⟨_, rfl⟩
            rw [hbf] at HXB
            clear HX8
            have hkI : (k : Int) < (n1 : Int) := by omega
            have hkI0 : (0 : Int) ≤ (k : Int) := by omega
            go_wp2
            try rw [hbf]
            clear hbf
            generalize wr.alloc (.cells #[.int .i64 (3 + 2 * (pw : Int)), .int .i64 pe, .int .i64 f2, .int .i64 (nt : Int), .string f4] 46) = WB at HXB HXP ⊢
            clear x0 x1 x2 x3 v0 q0 q1 q2 q3 q4
            obtain ⟨z0, z1, z2, z3, z4, _, _, _, _, _⟩ := bx5 HXB.out
            obtain ⟨x0, x1, x2, x3, _, _, _, _⟩ := bx4 HXP.out.X
            rw [hB5] at x0 x1 x2 x3
            have v1 := HXP.out.at_l pw hw2
            have v2 := HXP.out.at_s pw hw2
            rw [HES.out] at v2
            have v3 := HXP.out.at_t pw hw2
            rw [HET.out] at v3
            have HPE : Aside0 (∀ n, Calls Try.prog 25 #[.pointer (some ⟨B5.g pw, 0, none⟩)] (WB.drewN n) fun e w' => e = .returned (.int .i64 pe) ∧ w' = WB.drewN n) := ⟨fun n => by have h := peer_calls _ _ _ _ (WB.drewN n) ((HXP.out.drewN n).lk pw hw2); rw [HYPE.out] at h; exact h⟩
            have e0 : ((3 + 2 * (pw : Int)) != (3 + 2 * (pw : Int))) = false := by simp
            have e1 : (pe != pe) = false := by simp
            have e3 : ((nt : Int) != (nt : Int)) = false := by simp
            have e4 : (f4.toList != f4.toList) = false := by simp
            rcases HG2.out with hz | ⟨j, hj, hz, hns, hf4⟩
            · subst hz
              have e5 : decide ((0 : Int) > ak + 8) = false := decide_eq_false (by omega)
              dsimp only [List.append]
              go_quiet (first | (go_at_call 25; exact Calls.quiet_of_same (HPE.out _)) | fail)
              clear x0 x1 x2 x3 v1 v2 v3 z0 z1 z2 z3 z4
              go_wp2
              go_roundg (n1 - k)
              case rel => exact ⟨k + 1, by omega, by omega, by first | go_num | (congr 1; omega) | rfl, by omega, ⟨HXP.out.drewN _⟩⟩
              case measure => omega
            · obtain ⟨q, hq⟩ : ∃ q : Int, f2 - 1 = q := ⟨_, rfl⟩
              obtain rfl : f2 = q + 1 := by omega
              rw [show q + 1 - 1 = q by omega] at hf4
              clear hq
              have hs3 : Kd.string.C WB As (y5.sent pw).length (y5.sent pw) := by
                have h := HXP.out.s pw hw2
                rw [HES.out] at h
                exact (Kd.R_reads' h).2.2
              have hysl : (y5.sent pw).length = ns := by rw [HYS.out, HNS.out]
              obtain ⟨ads, es, hs4⟩ := Kd.at_string hs3 q (by omega) (by rw [hysl]; omega)
              rw [HYS.out, ← hf4] at hs4
              rw [es] at v2
              have HES2 := Aside0.mk es
              clear hs3 es hysl hf4
              have e5 : decide (q + 1 > ak + 8) = false := decide_eq_false (by omega)
              have e6 : decide (q + 1 > 0) = true := decide_eq_true (by omega)
              have e7 : decide (q + 1 ≤ ak) = false := decide_eq_false (by omega)
              have e8 : (0 : Int) ≤ q := by omega
              have e9 : q < (ns : Int) := by omega
              have HHZ := Aside0.mk hz
              have ew1 : wrap64 (2 * (pw : Int)) = 2 * (pw : Int) := by unfold wrap64; omega
              have ew2 : wrap64 (3 + 2 * (pw : Int)) = 3 + 2 * (pw : Int) := by unfold wrap64; omega
              have ew3 : wrap64 (ak + 8) = ak + 8 := by unfold wrap64; omega
              have ew4 : wrap64 (q + 1 - 1) = q := by unfold wrap64; omega
              have ev1 : IntKind.i64.wrap (2 * (pw : Int)) = 2 * (pw : Int) := by simp only [i64_w]; exact ew1
              have ev2 : IntKind.i64.wrap (3 + 2 * (pw : Int)) = 3 + 2 * (pw : Int) := by simp only [i64_w]; exact ew2
              have ev3 : IntKind.i64.wrap (ak + 8) = ak + 8 := by simp only [i64_w]; exact ew3
              have ev4 : IntKind.i64.wrap (q + 1 - 1) = q := by simp only [i64_w]; exact ew4
              have ev5 : IntKind.i64.wrap q = q := by simp only [i64_w]; unfold wrap64; omega
              clear hz hns hj ew1 ew2 ew3 ew4
              dsimp only [List.append]
              go_quiet (first | (go_at_call 25; exact Calls.quiet_of_same (HPE.out _)) | fail)
              clear x0 x1 x2 x3 v1 v2 v3 z0 z1 z2 z3 z4 hs4
              go_wp2
              go_roundg (n1 - k)
              case rel => exact ⟨k + 1, by omega, by omega, by first | go_num | (congr 1; omega) | rfl, by omega, ⟨HXP.out.drewN _⟩⟩
              case measure => omega
          · have hd3 : decide ((k : Int) < (n1 : Int)) = false := decide_eq_false (by omega)
            go_wp2
            go_roundg (l0.length - i)
            case rel => exact ⟨i + 1, _, B5, by omega, by omega, by first | go_num | (congr 1; omega) | rfl, by omega, hB5, HX8, HI5⟩
            case measure => omega
      · have hk1b : ((kd : Int) == 1) = false := beq_eq_false_iff_ne.mpr (by omega)
        have hk1c : ((kd : Int) != 1) = true := bne_iff_ne.mpr (by omega)
        clear hk1
        go_wp2
        go_roundg (l0.length - i)
        case rel => exact ⟨i + 1, _, B5, by omega, by omega, by first | go_num | (congr 1; omega) | rfl, by omega, hB5, HX7, HI5⟩
        case measure => omega
    · by_cases hl : i < l0.length
      · have hd1 : decide ((i : Int) < (l0.length : Int)) = true := decide_eq_true (by omega)
        have hd2 : decide ((i : Int) < 200) = false := decide_eq_false (by omega)
        go_wp2
        go_ret
        exact ⟨rfl, HX.out.two.Bl⟩
      · have hd1 : decide ((i : Int) < (l0.length : Int)) = false := decide_eq_false (by omega)
        go_wp2
        go_ret
        exact ⟨rfl, HX.out.two.Bl⟩

end Go.Proofs.Ytdpogggajdfedaa.P
