import Derived.Test.YtdpogggajdfedaaLinkN
import Derived.Outline
import Derived.Laws.BitsAllLaws
import Derived.WalkSpells
import Derived.StillTailTactics
namespace Go.Proofs.Ytdpogggajdfedaa.P
open Go.RowKit Go.Proofs.YtdpogggajdfedaaW.PrintWords Go.Proofs.YtdpogggajdfedaaW.PrintLast Go.Proofs.YtdpogggajdfedaaW.PrintMore
attribute [local go_sem] max2_int min2_int max_two min_two max_three min_three max_four min_four
set_option linter.unusedVariables false
set_option linter.unusedSimpArgs false
def deR.T13 : Bool × List (List Nat × List Nat) := (true, [([], []), ([0], [0]), ([1], [1]), ([2], [2]), ([3], [3]), ([4], [4]), ([], []), ([5, 6], [5, 6]), ([7], [7]), ([8], [8]), ([8], [8]), ([9, 7, 0, 1, 2, 3, 4, 5, 6, 7, 8, 9], [9]), ([10, 11, 0, 1, 2, 3, 4, 5, 6, 7, 8, 9, 10, 11], [10])])
def deR.B13 : List Nat := [0, 1, 3, 7, 15, 31, 0, 127, 255, 511, 511, 1023, 4095]
theorem deR.tab13 : rtab .any (opsOf Try.f8 13) = deR.T13 := by kernel_rfl
theorem deR.bits13 : waitsOk deR.T13.2 deR.B13 = true := by kernel_rfl
theorem deaf {l : LkS} (he : l.epoch = 3) (hp : l.peer = 0 ∨ l.peer = 5) {f : FrT} (hn : ¬ (5 < f.f0 ∨ f.f0 = 5 ∧ f.f1 = 3)) :
    (l.take f).2.2 = false ∧ (¬ (f.f1 = 3 ∧ l.peer < f.f0) → (l.take f).2.1 = [] ∧ (l.take f).1.wait.length = l.wait.length) := by
  have hd : ¬ (l.peer < f.f0 ∧ l.peer ≠ 0) := by omega
  have hdec : decide (l.peer < f.f0 ∧ l.peer ≠ 0) = false := decide_eq_false hd
  have hm : (l.meet f.f0).wait = l.wait := by
    unfold LkS.meet
    split
    · rw [if_neg (by omega)]
    · rfl
  unfold LkS.take
  split
  · exact ⟨rfl, fun _ => ⟨rfl, rfl⟩⟩
  · rename_i hr
    have h1 : RightF f := Classical.not_not.1 fun e => hr (.inl e)
    have h2 : ¬ f.f0 < l.peer := fun e => hr (.inr e)
    split
    · exact ⟨hdec, fun _ => ⟨rfl, by show (l.meet f.f0).wait.length = _; rw [hm]⟩⟩
    · rename_i h3
      rw [he] at h3
      refine ⟨hdec, fun h4 => ?_⟩
      exfalso
      have h5 := h1.1
      omega
theorem wait_q {b g n : Nat} {l : LkS} {V : Value} {w : World} (h : LkIs w b g l V) (hn : l.wait.length = n) : ∀ a : Nat, Calls Try.prog 12 #[.pointer (some ⟨g, 0, none⟩)] (w.drewN a) fun e w' => e = .returned (.int .i64 (n : Int)) ∧ ∃ m, w' = (w.drewN a).drewN m :=
  fun a => (waiting_calls b g l V _ (h.drewN a)).mono fun e w' h => ⟨by rw [h.1, hn], 0, h.2⟩
def carillonlaw09_LinkDeaf.f (l0 : List TurnT) (F0 F1 F2 F3 : Int) (F4 : ByteArray) : Option Bool :=
  if (l0.all fun x => inB x.f0 && inB x.f1 && inB x.f2) = true ∧ inB F0 = true ∧ inB F1 = true ∧ inB F2 = true ∧ inB F3 = true then some true else none
set_option maxHeartbeats 16000000 in
set_option maxRecDepth 100000 in
theorem carillonlaw09_LinkDeaf.calls (A0 : Option Addr) (c0 : Nat) (l0 : List TurnT) (F0 F1 F2 F3 : Int) (F4 : ByteArray) (r : Bool) (w : World) (hr0 : Kd.C k28 w A0 l0.length l0) (hc0 : l0.length ≤ c0) (hr_ : Aside0 (r = true)) (h : carillonlaw09_LinkDeaf.f l0 F0 F1 F2 F3 F4 = some r) :
    Calls Try.prog 8 #[.slice A0 l0.length c0, .agg #[.int .i64 F0, .int .i64 F1, .int .i64 F2, .int .i64 F3, .string F4]] w fun e w' => e = .returned (.bool r) ∧ Below w.heap.size w w' := by
  obtain rfl := hr_.out
  unfold carillonlaw09_LinkDeaf.f at h
  split at h
  case isFalse => exact absurd h (by simp)
  rename_i hi0
  obtain ⟨hi0, hj0, hj1, _, _⟩ := hi0
  have HI0 := Aside0.mk hi0
  have HR0 := Aside0.mk hr0
  have hm0 := hr0.2.1
  have hF0 : Aside0 (-9223372036854775808 ≤ F0) := ⟨by rw [inB_iff] at hj0; omega⟩
  clear hr0 hi0 h hr_ hj0 hj1
  have HFx := Aside0.mk (heap_alloc_new w (.cells #[.int .i64 F0, .int .i64 F1, .int .i64 F2, .int .i64 F3, .string F4] 46))
  have HBx := Aside0.mk (below_alloc (Below.refl _ w) (.cells #[.int .i64 F0, .int .i64 F1, .int .i64 F2, .int .i64 F3, .string F4] 46))
  obtain ⟨bf, hbf⟩ : ∃ bf, w.heap.size = bf := ⟨_, rfl⟩
  rw [hbf] at HFx
  go_enter Try.func8, Try.ntmps8
  go_wp2_with (go_at_call 9; refine (examples_calls _).mono ?_)
  rintro e W1 ⟨rfl, hB1⟩
  try rw [hbf]
  have HF1 := Aside0.mk (blk_below HFx.out hB1)
  have HB1 := Aside0.mk (below_step HBx.out hB1)
  clear hB1 HFx HBx hbf
  go_wp2_with (go_at_call 10; refine (begin_calls W1).mono ?_)
  rintro e W2 ⟨B0, rfl, hP⟩
  have HP0 := Aside0.mk hP
  obtain ⟨gx, hgx⟩ : ∃ gx, B0.gx = gx := ⟨_, rfl⟩
  rw [hgx]
  clear hP
  go_wp2
  go_loopg [7] (l0.length + 1) (fun kq v7 W => ∃ (i : Nat) (x : PaM) (B : PB), i ≤ l0.length ∧ i ≤ 60 ∧ v7 = .int .i64 (i : Int) ∧ l0.length - i < kq ∧ B.gx = gx ∧ Aside0 (PairIs W1 W B x) ∧ Aside0 (InvP i x))
  case atStart => exact ⟨0, PaM.start, B0, Nat.zero_le _, Nat.zero_le _, rfl, by omega, hgx, HP0, ⟨InvP.start⟩⟩
  case round =>
    obtain ⟨i, x, B, hi, hi3, rfl, hq, hgB, HX, HI⟩ := hrel
    clear HP0 hgx
    by_cases hlt : i < l0.length ∧ i < 60
    · obtain ⟨hl, hl3⟩ := hlt
      have hdc : decide ((i : Int) < 60) = true := decide_eq_true (by omega)
      obtain ⟨ad, e0, ht0, ht1, ht2, ht3⟩ := at_T28 (Kd.C_below HR0.out (below_step HB1.out HX.out.two.Bl)) (i : Int) (by omega) (by omega)
      cases e0
      have hyb := all_rdT HI0.out i hl
      rw [show ((i : Int)).toNat = i from rfl] at ht0 ht1 ht2 ht3
      have HSC := turn_next (rd_T28 l0 (i : Int)) hyb hgB HX.out HI.out (by omega)
      generalize rd_T28 l0 (i : Int) = y at ht0 ht1 ht2 ht3 HSC
      obtain ⟨y0, y1, y2, y3⟩ := y
      dsimp only at ht0 ht1 ht2 ht3 HSC
      have HSC1 := Aside0.mk HSC
      clear HSC hyb
      go_wp2_with (go_at_call 11; refine HSC1.out.mono ?_)
      rintro e W5 ⟨rfl, B5, hB5, HX5, HI5⟩
      clear HSC1 HX HI ht0 ht1 ht2 ht3
      go_wp2
      go_roundg (l0.length - i)
      case rel => exact ⟨i + 1, _, B5, by omega, by omega, by first | go_num | (congr 1; omega) | rfl, by omega, hB5, HX5, HI5⟩
      case measure => omega
    · subst hgB
      have HFr := Aside0.mk (blk_below HF1.out HX.out.two.Bl)
      have HBw := Aside0.mk (below_step HB1.out HX.out.two.Bl)
      obtain ⟨f0_, f1_, f2_, f3_, f4_, _, _, _, _, _⟩ := bx5 HFr.out
      by_cases hl : i < l0.length
      · have hd1 : decide ((i : Int) < (l0.length : Int)) = true := decide_eq_true (by omega)
        have hd2 : decide ((i : Int) < 60) = false := decide_eq_false (by omega)
        by_cases hf5 : 5 < F0
        · have hh5 : decide ((5 : Int) < F0) = true := decide_eq_true hf5
          go_wp2
          go_ret
          exact ⟨rfl, HBw.out⟩
        · have hh5 : decide ((5 : Int) < F0) = false := decide_eq_false hf5
          by_cases hf6 : F0 = 5
          · have hh6 : (F0 == 5) = true := beq_iff_eq.mpr hf6
            by_cases hf3 : F1 = 3
            · have hh3 : (F1 == 3) = true := beq_iff_eq.mpr hf3
              go_wp2
              go_ret
              exact ⟨rfl, HBw.out⟩
            · obtain ⟨x0, x1, x2, x3, _, _, _, _⟩ := bx4 HX.out.X
              rcases (HI.out.en 0 (by decide)).pr with hpe | hpe
              · subst hf6
                have hlep : (x.l 0).epoch = 3 := (HI.out.en 0 (by decide)).ep
                have hT := deaf (f := ⟨5, F1, F2, F3, F4⟩) hlep (HI.out.en 0 (by decide)).pr (by show ¬ (5 < 5 ∨ 5 = 5 ∧ F1 = 3); omega)
                have HPE : Aside0 (∀ W, PairIs W1 W B x → Calls Try.prog 25 #[.pointer (some ⟨B.g 0, 0, none⟩)] W fun e w' => e = .returned (.int .i64 0) ∧ w' = W) := ⟨fun W h => (peer_calls _ _ _ _ W (h.lk 0 (by decide))).mono fun e w' h => ⟨by rw [h.1, hpe], h.2⟩⟩
                obtain ⟨nw, hnw⟩ : ∃ nw, (x.l 0).wait.length = nw := ⟨_, rfl⟩
                have HWA : Aside0 (∀ W, PairIs W1 W B x → Calls Try.prog 12 #[.pointer (some ⟨B.g 0, 0, none⟩)] W fun e w' => e = .returned (.int .i64 (nw : Int)) ∧ w' = W) := ⟨fun W h => (waiting_calls _ _ _ _ W (h.lk 0 (by decide))).mono fun e w' h => ⟨by rw [h.1, hnw], h.2⟩⟩
                have hlok := HI.out.ok 0 (by decide)
                obtain ⟨l', hl'⟩ : ∃ l', ((x.l 0).take ⟨5, F1, F2, F3, F4⟩).1 = l' := ⟨_, rfl⟩
                obtain ⟨bs, hbs⟩ : ∃ bs, ((x.l 0).take ⟨5, F1, F2, F3, F4⟩).2.1 = bs := ⟨_, rfl⟩
                obtain ⟨nb, hnb⟩ : ∃ nb, bs.length = nb := ⟨_, rfl⟩
                have HT3 : Aside0 ((x.l 0).take ⟨5, F1, F2, F3, F4⟩ = (l', bs, false)) := ⟨by rw [← hl', ← hbs, ← hT.1]⟩
                have HC : Aside0 (∀ W, PairIs W1 W B x → Calls Try.prog 18 #[.pointer (some ⟨B.g 0, 0, none⟩), .agg #[.int .i64 5, .int .i64 F1, .int .i64 F2, .int .i64 F3, .string F4]] W (TakeP W W1.heap.size W.heap.size (B.g 0) (B.V 0) l' bs nb)) := ⟨fun W h => by
                  have h1 := take_calls _ _ _ _ ⟨5, F1, F2, F3, F4⟩ W (h.lk 0 (by decide)) hlok hF0.out
                  rw [HT3.out] at h1
                  rw [← hnb]
                  exact h1⟩
                have hT2 := hT.2 (by rw [hpe]; show ¬ (F1 = 3 ∧ (0 : Int) < 5); omega)
                obtain rfl : nb = 0 := by rw [← hnb, ← hbs, hT2.1]; rfl
                have hlw : l'.wait.length = nw := by rw [← hl', hT2.2, hnw]
                have HLW := Aside0.mk hlw
                clear hT2 hlw
                have hh3 : (F1 == 3) = false := beq_eq_false_iff_ne.mpr (by omega)
                have hhp : decide ((0 : Int) < 5) = true := decide_eq_true (by omega)
                have hat := HX.out.at_l 0 (by decide)
                have hat0 : wr.cell? ⟨B.gl, 0, none⟩ = some (.pointer (some ⟨B.g 0, 0, none⟩)) := hat
                clear hlep hT hnw hlok hl' hbs hnb hpe hat
                have HFr2 := HFr
                go_wp2_with (first | (go_at_call 12; refine (HWA.out _ HX.out).mono ?_) | (go_at_call 25; refine (HPE.out _ HX.out).mono ?_))
                rintro e W6 ⟨rfl, rfl⟩
                clear HWA HPE
                go_wp2
                have HQd := Aside0.mk HX.out.drew
                have HFd := Aside0.mk (blk_drew HFr2.out)
                refine start_ (n := 13) (S := fun W => W.heap[B.gx]? = some (.cells #[.slice (some ⟨B.gl, 0, none⟩) 2 2, .slice (some ⟨B.gw, 0, none⟩) 2 2, .slice (some ⟨B.gs, 0, none⟩) 2 2, .slice (some ⟨B.gt, 0, none⟩) 2 2] 35 (0, 0)) ∧ W.heap[B.gl]? = some (.cells #[.pointer (some ⟨B.g 0, 0, none⟩), .pointer (some ⟨B.g 1, 0, none⟩)] 37 (0, 0)) ∧ W.heap[bf]? = some (.cells #[.int .i64 5, .int .i64 F1, .int .i64 F2, .int .i64 F3, .string F4] 46 (0, 0))) (ds := []) (bz 13 0) (by kernel_rfl) rfl rfl ⟨HQd.out.X, HQd.out.L, HFd.out⟩ (fun hHeld => ?_); refine with_tabW deR.tab13 deR.bits13 (fun HT_ HW_ => ?_)
                generalize World.drew _ = W3 at hHeld HQd HFd ⊢
                refine pu_ 0 (some 61) (bz 13 1) HT_.out ?_
                refine pu_ 1 (some 62) (bz 13 3) HT_.out ?_
                refine pu_ 2 (some 63) (bz 13 7) HT_.out ?_
                refine take_ (i := 3) (N := (some 64)) (v := ?_) (a' := ?_) (bz 13 15) rfl rfl (take_ofW HT_.out HW_.out (by kernel_rfl)) (fun _ _ _ h => h) (Or.inl ⟨by rfl, ?_⟩) hHeld ?_ ?_
                rotate_left
                · rintro w' ⟨s0, s1, s2⟩
                  obtain ⟨x0, x1, x2, x3, _, _, _, _⟩ := bx4 s0
                  go_simp
                  with_reducible rfl
                rotate_left
                · simp only [Act.put, sl1, sl2, sl3, i64_w, i32_w]
                  rfl
                refine pu_ 4 (some 65) (bz 13 31) HT_.out ?_
                refine take_ (i := 5) (N := (some 66)) (v := ?_) (a' := ?_) (bz 13 63) rfl rfl (take_ofW HT_.out HW_.out (by kernel_rfl)) (fun _ _ _ h => h) (Or.inl ⟨by rfl, ?_⟩) hHeld ?_ ?_
                rotate_left
                · rintro w' ⟨s0, s1, s2⟩
                  have y0 : w'.cell? ⟨B.gl, 0, none⟩ = some (.pointer (some ⟨B.g 0, 0, none⟩)) := blk_cell s1 0
                  go_simp
                  with_reducible rfl
                rotate_left
                · simp only [Act.put, sl1, sl2, sl3, i64_w, i32_w]
                  rfl
                refine take_ (i := 6) (N := (some 67)) (v := ?_) (a' := ?_) (bz 13 127) rfl rfl (take_ofW HT_.out HW_.out (by kernel_rfl)) (fun _ _ _ h => h) (Or.inl ⟨by rfl, ?_⟩) hHeld ?_ ?_
                rotate_left
                · rintro w' ⟨s0, s1, s2⟩
                  obtain ⟨z0_, z1_, z2_, z3_, z4_, _, _, _, _, _⟩ := bx5 s2
                  go_simp
                  with_reducible rfl
                rotate_left
                · simp only [Act.put, sl1, sl2, sl3, i64_w, i32_w]
                  rfl
                refine one_ (i := 7) (N := (some 68)) (bz 13 255) rfl rfl (one_of HT_.out (by kernel_rfl)) (by decide) (fun K hK => ?_)
                refine goes_ Try.func18 (by kernel_rfl) rfl #[.pointer (some ⟨B.g 0, 0, none⟩), .agg #[.int .i64 5, .int .i64 F1, .int .i64 F2, .int .i64 F3, .string F4]] (by rfl) rfl rfl am ?_
                refine (HC.out _ HQd.out).mono ?_
                rintro e w1 ⟨Ab, cb, rfl, hR, V1, hA, hO⟩
                refine ⟨_, rfl, ?_⟩
                have HQ4 := Aside0.mk (HQd.out.deed 0 (by decide) hA hO)
                have HF4 := Aside0.mk (hO.box (HQd.out.lk 0 (by decide)) hHeld.2.2 (by decide) (by decide))
                clear hR hA hO
                refine hK.out _ _ ⟨HQ4.out.X, HQ4.out.L, HF4.out⟩ (fun hHeld => ?_)
                clear hK K
                refine norm_ (a' := ?_) ?_ ?_
                rotate_left
                · show Act.put _ (some 68) _ = _
                  simp only [Act.put, sl1, sl2, sl3, i64_w, i32_w]
                  rfl
                refine pu_ 8 (some 60) (bz 13 511) HT_.out ?_
                refine pu_ 9 (some 69) (bz 13 1023) HT_.out ?_
                refine pu_ 10 (some 70) (bz 13 2047) HT_.out ?_
                refine pu_ 11 (some 10) (bz 13 4095) HT_.out ?_
                refine pu_ 12 (some 11) (bz 13 8191) HT_.out ?_
                refine done_ (done_of HT_.out (by kernel_rfl)) ?_
                clear HT_ HW_ hHeld HQd HFd HX HFr HFr2 HC f0_ f1_ f2_ f3_ f4_ hat0
                obtain ⟨f0_, f1_, f2_, f3_, f4_, _, _, _, _, _⟩ := bx5 HF4.out
                have HBz := Aside0.mk (below_step HB1.out HQ4.out.two.Bl)
                have HWQ : Aside0 (∀ a : Nat, _) := ⟨wait_q (HQ4.out.lk 0 (by decide)) HLW.out⟩
                have HWQ2 : Aside0 (∀ a : Nat, Calls Try.prog 12 #[.pointer (some ⟨B.g 0, 0, none⟩)] (w1.drewN a) fun e w' => e = .returned (.int .i64 (nw : Int)) ∧ ∃ m, w' = (w1.drewN a).drewN m) := ⟨HWQ.out⟩
                obtain ⟨x0, x1, x2, x3, _, _, _, _⟩ := bx4 HQ4.out.X
                have hat0 : w1.cell? ⟨B.gl, 0, none⟩ = some (.pointer (some ⟨B.g 0, 0, none⟩)) := HQ4.out.at_l 0 (by decide)
                clear HWQ
                go_wp2
                go_quiet (first | (go_at_call 12; with_reducible exact Calls.quiet_of (HWQ2.out _)) | fail)
                go_wp2
                go_ret
                exact ⟨rfl, pw_below_drewN HBz.out _⟩
              · subst hf6
                replace hpe : (x.l 0).peer = 5 := hpe.trans (by decide)
                have hlep : (x.l 0).epoch = 3 := (HI.out.en 0 (by decide)).ep
                have hT := deaf (f := ⟨5, F1, F2, F3, F4⟩) hlep (HI.out.en 0 (by decide)).pr (by show ¬ (5 < 5 ∨ 5 = 5 ∧ F1 = 3); omega)
                have HPE : Aside0 (∀ W, PairIs W1 W B x → Calls Try.prog 25 #[.pointer (some ⟨B.g 0, 0, none⟩)] W fun e w' => e = .returned (.int .i64 5) ∧ w' = W) := ⟨fun W h => (peer_calls _ _ _ _ W (h.lk 0 (by decide))).mono fun e w' h => ⟨by rw [h.1, hpe], h.2⟩⟩
                obtain ⟨nw, hnw⟩ : ∃ nw, (x.l 0).wait.length = nw := ⟨_, rfl⟩
                have HWA : Aside0 (∀ W, PairIs W1 W B x → Calls Try.prog 12 #[.pointer (some ⟨B.g 0, 0, none⟩)] W fun e w' => e = .returned (.int .i64 (nw : Int)) ∧ w' = W) := ⟨fun W h => (waiting_calls _ _ _ _ W (h.lk 0 (by decide))).mono fun e w' h => ⟨by rw [h.1, hnw], h.2⟩⟩
                have hlok := HI.out.ok 0 (by decide)
                obtain ⟨l', hl'⟩ : ∃ l', ((x.l 0).take ⟨5, F1, F2, F3, F4⟩).1 = l' := ⟨_, rfl⟩
                obtain ⟨bs, hbs⟩ : ∃ bs, ((x.l 0).take ⟨5, F1, F2, F3, F4⟩).2.1 = bs := ⟨_, rfl⟩
                obtain ⟨nb, hnb⟩ : ∃ nb, bs.length = nb := ⟨_, rfl⟩
                have HT3 : Aside0 ((x.l 0).take ⟨5, F1, F2, F3, F4⟩ = (l', bs, false)) := ⟨by rw [← hl', ← hbs, ← hT.1]⟩
                have HC : Aside0 (∀ W, PairIs W1 W B x → Calls Try.prog 18 #[.pointer (some ⟨B.g 0, 0, none⟩), .agg #[.int .i64 5, .int .i64 F1, .int .i64 F2, .int .i64 F3, .string F4]] W (TakeP W W1.heap.size W.heap.size (B.g 0) (B.V 0) l' bs nb)) := ⟨fun W h => by
                  have h1 := take_calls _ _ _ _ ⟨5, F1, F2, F3, F4⟩ W (h.lk 0 (by decide)) hlok hF0.out
                  rw [HT3.out] at h1
                  rw [← hnb]
                  exact h1⟩
                have hT2 := hT.2 (by rw [hpe]; show ¬ (F1 = 3 ∧ (5 : Int) < 5); omega)
                obtain rfl : nb = 0 := by rw [← hnb, ← hbs, hT2.1]; rfl
                have hlw : l'.wait.length = nw := by rw [← hl', hT2.2, hnw]
                have HLW := Aside0.mk hlw
                clear hT2 hlw
                have hh3 : (F1 == 3) = false := beq_eq_false_iff_ne.mpr (by omega)
                have hhp : decide ((5 : Int) < 5) = false := decide_eq_false (by omega)
                have hat := HX.out.at_l 0 (by decide)
                have hat0 : wr.cell? ⟨B.gl, 0, none⟩ = some (.pointer (some ⟨B.g 0, 0, none⟩)) := hat
                clear hlep hT hnw hlok hl' hbs hnb hpe hat
                have HFr2 := HFr
                go_wp2_with (first | (go_at_call 12; refine (HWA.out _ HX.out).mono ?_) | (go_at_call 25; refine (HPE.out _ HX.out).mono ?_))
                rintro e W6 ⟨rfl, rfl⟩
                clear HWA HPE
                go_wp2
                have HQd := Aside0.mk HX.out.drew
                have HFd := Aside0.mk (blk_drew HFr2.out)
                refine start_ (n := 13) (S := fun W => W.heap[B.gx]? = some (.cells #[.slice (some ⟨B.gl, 0, none⟩) 2 2, .slice (some ⟨B.gw, 0, none⟩) 2 2, .slice (some ⟨B.gs, 0, none⟩) 2 2, .slice (some ⟨B.gt, 0, none⟩) 2 2] 35 (0, 0)) ∧ W.heap[B.gl]? = some (.cells #[.pointer (some ⟨B.g 0, 0, none⟩), .pointer (some ⟨B.g 1, 0, none⟩)] 37 (0, 0)) ∧ W.heap[bf]? = some (.cells #[.int .i64 5, .int .i64 F1, .int .i64 F2, .int .i64 F3, .string F4] 46 (0, 0))) (ds := []) (bz 13 0) (by kernel_rfl) rfl rfl ⟨HQd.out.X, HQd.out.L, HFd.out⟩ (fun hHeld => ?_); refine with_tabW deR.tab13 deR.bits13 (fun HT_ HW_ => ?_)
                generalize World.drew _ = W3 at hHeld HQd HFd ⊢
                refine pu_ 0 (some 61) (bz 13 1) HT_.out ?_
                refine pu_ 1 (some 62) (bz 13 3) HT_.out ?_
                refine pu_ 2 (some 63) (bz 13 7) HT_.out ?_
                refine take_ (i := 3) (N := (some 64)) (v := ?_) (a' := ?_) (bz 13 15) rfl rfl (take_ofW HT_.out HW_.out (by kernel_rfl)) (fun _ _ _ h => h) (Or.inl ⟨by rfl, ?_⟩) hHeld ?_ ?_
                rotate_left
                · rintro w' ⟨s0, s1, s2⟩
                  obtain ⟨x0, x1, x2, x3, _, _, _, _⟩ := bx4 s0
                  go_simp
                  with_reducible rfl
                rotate_left
                · simp only [Act.put, sl1, sl2, sl3, i64_w, i32_w]
                  rfl
                refine pu_ 4 (some 65) (bz 13 31) HT_.out ?_
                refine take_ (i := 5) (N := (some 66)) (v := ?_) (a' := ?_) (bz 13 63) rfl rfl (take_ofW HT_.out HW_.out (by kernel_rfl)) (fun _ _ _ h => h) (Or.inl ⟨by rfl, ?_⟩) hHeld ?_ ?_
                rotate_left
                · rintro w' ⟨s0, s1, s2⟩
                  have y0 : w'.cell? ⟨B.gl, 0, none⟩ = some (.pointer (some ⟨B.g 0, 0, none⟩)) := blk_cell s1 0
                  go_simp
                  with_reducible rfl
                rotate_left
                · simp only [Act.put, sl1, sl2, sl3, i64_w, i32_w]
                  rfl
                refine take_ (i := 6) (N := (some 67)) (v := ?_) (a' := ?_) (bz 13 127) rfl rfl (take_ofW HT_.out HW_.out (by kernel_rfl)) (fun _ _ _ h => h) (Or.inl ⟨by rfl, ?_⟩) hHeld ?_ ?_
                rotate_left
                · rintro w' ⟨s0, s1, s2⟩
                  obtain ⟨z0_, z1_, z2_, z3_, z4_, _, _, _, _, _⟩ := bx5 s2
                  go_simp
                  with_reducible rfl
                rotate_left
                · simp only [Act.put, sl1, sl2, sl3, i64_w, i32_w]
                  rfl
                refine one_ (i := 7) (N := (some 68)) (bz 13 255) rfl rfl (one_of HT_.out (by kernel_rfl)) (by decide) (fun K hK => ?_)
                refine goes_ Try.func18 (by kernel_rfl) rfl #[.pointer (some ⟨B.g 0, 0, none⟩), .agg #[.int .i64 5, .int .i64 F1, .int .i64 F2, .int .i64 F3, .string F4]] (by rfl) rfl rfl am ?_
                refine (HC.out _ HQd.out).mono ?_
                rintro e w1 ⟨Ab, cb, rfl, hR, V1, hA, hO⟩
                refine ⟨_, rfl, ?_⟩
                have HQ4 := Aside0.mk (HQd.out.deed 0 (by decide) hA hO)
                have HF4 := Aside0.mk (hO.box (HQd.out.lk 0 (by decide)) hHeld.2.2 (by decide) (by decide))
                clear hR hA hO
                refine hK.out _ _ ⟨HQ4.out.X, HQ4.out.L, HF4.out⟩ (fun hHeld => ?_)
                clear hK K
                refine norm_ (a' := ?_) ?_ ?_
                rotate_left
                · show Act.put _ (some 68) _ = _
                  simp only [Act.put, sl1, sl2, sl3, i64_w, i32_w]
                  rfl
                refine pu_ 8 (some 60) (bz 13 511) HT_.out ?_
                refine pu_ 9 (some 69) (bz 13 1023) HT_.out ?_
                refine pu_ 10 (some 70) (bz 13 2047) HT_.out ?_
                refine pu_ 11 (some 10) (bz 13 4095) HT_.out ?_
                refine pu_ 12 (some 11) (bz 13 8191) HT_.out ?_
                refine done_ (done_of HT_.out (by kernel_rfl)) ?_
                clear HT_ HW_ hHeld HQd HFd HX HFr HFr2 HC f0_ f1_ f2_ f3_ f4_ hat0
                obtain ⟨f0_, f1_, f2_, f3_, f4_, _, _, _, _, _⟩ := bx5 HF4.out
                have HBz := Aside0.mk (below_step HB1.out HQ4.out.two.Bl)
                have HWQ : Aside0 (∀ a : Nat, _) := ⟨wait_q (HQ4.out.lk 0 (by decide)) HLW.out⟩
                have HWQ2 : Aside0 (∀ a : Nat, Calls Try.prog 12 #[.pointer (some ⟨B.g 0, 0, none⟩)] (w1.drewN a) fun e w' => e = .returned (.int .i64 (nw : Int)) ∧ ∃ m, w' = (w1.drewN a).drewN m) := ⟨HWQ.out⟩
                obtain ⟨x0, x1, x2, x3, _, _, _, _⟩ := bx4 HQ4.out.X
                have hat0 : w1.cell? ⟨B.gl, 0, none⟩ = some (.pointer (some ⟨B.g 0, 0, none⟩)) := HQ4.out.at_l 0 (by decide)
                clear HWQ
                go_wp2
                go_quiet (first | (go_at_call 12; with_reducible exact Calls.quiet_of (HWQ2.out _)) | fail)
                go_wp2
                go_ret
                exact ⟨rfl, pw_below_drewN HBz.out _⟩
          · have hh6 : (F0 == 5) = false := beq_eq_false_iff_ne.mpr hf6
            obtain ⟨x0, x1, x2, x3, _, _, _, _⟩ := bx4 HX.out.X
            by_cases hf3 : F1 = 3
            · rcases (HI.out.en 0 (by decide)).pr with hpe | hpe
              · by_cases hf0 : 0 < F0
                · subst hf3
                  have hlep : (x.l 0).epoch = 3 := (HI.out.en 0 (by decide)).ep
                  have hT := deaf (f := ⟨F0, 3, F2, F3, F4⟩) hlep (HI.out.en 0 (by decide)).pr (by show ¬ (5 < F0 ∨ F0 = 5 ∧ 3 = 3); omega)
                  have HPE : Aside0 (∀ W, PairIs W1 W B x → Calls Try.prog 25 #[.pointer (some ⟨B.g 0, 0, none⟩)] W fun e w' => e = .returned (.int .i64 0) ∧ w' = W) := ⟨fun W h => (peer_calls _ _ _ _ W (h.lk 0 (by decide))).mono fun e w' h => ⟨by rw [h.1, hpe], h.2⟩⟩
                  obtain ⟨nw, hnw⟩ : ∃ nw, (x.l 0).wait.length = nw := ⟨_, rfl⟩
                  have HWA : Aside0 (∀ W, PairIs W1 W B x → Calls Try.prog 12 #[.pointer (some ⟨B.g 0, 0, none⟩)] W fun e w' => e = .returned (.int .i64 (nw : Int)) ∧ w' = W) := ⟨fun W h => (waiting_calls _ _ _ _ W (h.lk 0 (by decide))).mono fun e w' h => ⟨by rw [h.1, hnw], h.2⟩⟩
                  have hlok := HI.out.ok 0 (by decide)
                  obtain ⟨l', hl'⟩ : ∃ l', ((x.l 0).take ⟨F0, 3, F2, F3, F4⟩).1 = l' := ⟨_, rfl⟩
                  obtain ⟨bs, hbs⟩ : ∃ bs, ((x.l 0).take ⟨F0, 3, F2, F3, F4⟩).2.1 = bs := ⟨_, rfl⟩
                  obtain ⟨nb, hnb⟩ : ∃ nb, bs.length = nb := ⟨_, rfl⟩
                  have HT3 : Aside0 ((x.l 0).take ⟨F0, 3, F2, F3, F4⟩ = (l', bs, false)) := ⟨by rw [← hl', ← hbs, ← hT.1]⟩
                  have HC : Aside0 (∀ W, PairIs W1 W B x → Calls Try.prog 18 #[.pointer (some ⟨B.g 0, 0, none⟩), .agg #[.int .i64 F0, .int .i64 3, .int .i64 F2, .int .i64 F3, .string F4]] W (TakeP W W1.heap.size W.heap.size (B.g 0) (B.V 0) l' bs nb)) := ⟨fun W h => by
                    have h1 := take_calls _ _ _ _ ⟨F0, 3, F2, F3, F4⟩ W (h.lk 0 (by decide)) hlok hF0.out
                    rw [HT3.out] at h1
                    rw [← hnb]
                    exact h1⟩
                  have hhp : decide ((0 : Int) < F0) = true := decide_eq_true (by omega)
                  have hat := HX.out.at_l 0 (by decide)
                  have hat0 : wr.cell? ⟨B.gl, 0, none⟩ = some (.pointer (some ⟨B.g 0, 0, none⟩)) := hat
                  clear hlep hT hnw hlok hl' hbs hnb hpe hat
                  have HFr2 := HFr
                  go_wp2_with (first | (go_at_call 12; refine (HWA.out _ HX.out).mono ?_) | (go_at_call 25; refine (HPE.out _ HX.out).mono ?_))
                  rintro e W6 ⟨rfl, rfl⟩
                  clear HWA HPE
                  go_wp2
                  have HQd := Aside0.mk HX.out.drew
                  have HFd := Aside0.mk (blk_drew HFr2.out)
                  refine start_ (n := 13) (S := fun W => W.heap[B.gx]? = some (.cells #[.slice (some ⟨B.gl, 0, none⟩) 2 2, .slice (some ⟨B.gw, 0, none⟩) 2 2, .slice (some ⟨B.gs, 0, none⟩) 2 2, .slice (some ⟨B.gt, 0, none⟩) 2 2] 35 (0, 0)) ∧ W.heap[B.gl]? = some (.cells #[.pointer (some ⟨B.g 0, 0, none⟩), .pointer (some ⟨B.g 1, 0, none⟩)] 37 (0, 0)) ∧ W.heap[bf]? = some (.cells #[.int .i64 F0, .int .i64 3, .int .i64 F2, .int .i64 F3, .string F4] 46 (0, 0))) (ds := []) (bz 13 0) (by kernel_rfl) rfl rfl ⟨HQd.out.X, HQd.out.L, HFd.out⟩ (fun hHeld => ?_); refine with_tabW deR.tab13 deR.bits13 (fun HT_ HW_ => ?_)
                  generalize World.drew _ = W3 at hHeld HQd HFd ⊢
                  refine pu_ 0 (some 61) (bz 13 1) HT_.out ?_
                  refine pu_ 1 (some 62) (bz 13 3) HT_.out ?_
                  refine pu_ 2 (some 63) (bz 13 7) HT_.out ?_
                  refine take_ (i := 3) (N := (some 64)) (v := ?_) (a' := ?_) (bz 13 15) rfl rfl (take_ofW HT_.out HW_.out (by kernel_rfl)) (fun _ _ _ h => h) (Or.inl ⟨by rfl, ?_⟩) hHeld ?_ ?_
                  rotate_left
                  · rintro w' ⟨s0, s1, s2⟩
                    obtain ⟨x0, x1, x2, x3, _, _, _, _⟩ := bx4 s0
                    go_simp
                    with_reducible rfl
                  rotate_left
                  · simp only [Act.put, sl1, sl2, sl3, i64_w, i32_w]
                    rfl
                  refine pu_ 4 (some 65) (bz 13 31) HT_.out ?_
                  refine take_ (i := 5) (N := (some 66)) (v := ?_) (a' := ?_) (bz 13 63) rfl rfl (take_ofW HT_.out HW_.out (by kernel_rfl)) (fun _ _ _ h => h) (Or.inl ⟨by rfl, ?_⟩) hHeld ?_ ?_
                  rotate_left
                  · rintro w' ⟨s0, s1, s2⟩
                    have y0 : w'.cell? ⟨B.gl, 0, none⟩ = some (.pointer (some ⟨B.g 0, 0, none⟩)) := blk_cell s1 0
                    go_simp
                    with_reducible rfl
                  rotate_left
                  · simp only [Act.put, sl1, sl2, sl3, i64_w, i32_w]
                    rfl
                  refine take_ (i := 6) (N := (some 67)) (v := ?_) (a' := ?_) (bz 13 127) rfl rfl (take_ofW HT_.out HW_.out (by kernel_rfl)) (fun _ _ _ h => h) (Or.inl ⟨by rfl, ?_⟩) hHeld ?_ ?_
                  rotate_left
                  · rintro w' ⟨s0, s1, s2⟩
                    obtain ⟨z0_, z1_, z2_, z3_, z4_, _, _, _, _, _⟩ := bx5 s2
                    go_simp
                    with_reducible rfl
                  rotate_left
                  · simp only [Act.put, sl1, sl2, sl3, i64_w, i32_w]
                    rfl
                  refine one_ (i := 7) (N := (some 68)) (bz 13 255) rfl rfl (one_of HT_.out (by kernel_rfl)) (by decide) (fun K hK => ?_)
                  refine goes_ Try.func18 (by kernel_rfl) rfl #[.pointer (some ⟨B.g 0, 0, none⟩), .agg #[.int .i64 F0, .int .i64 3, .int .i64 F2, .int .i64 F3, .string F4]] (by rfl) rfl rfl am ?_
                  refine (HC.out _ HQd.out).mono ?_
                  rintro e w1 ⟨Ab, cb, rfl, hR, V1, hA, hO⟩
                  refine ⟨_, rfl, ?_⟩
                  have HQ4 := Aside0.mk (HQd.out.deed 0 (by decide) hA hO)
                  have HF4 := Aside0.mk (hO.box (HQd.out.lk 0 (by decide)) hHeld.2.2 (by decide) (by decide))
                  clear hR hA hO
                  refine hK.out _ _ ⟨HQ4.out.X, HQ4.out.L, HF4.out⟩ (fun hHeld => ?_)
                  clear hK K
                  refine norm_ (a' := ?_) ?_ ?_
                  rotate_left
                  · show Act.put _ (some 68) _ = _
                    simp only [Act.put, sl1, sl2, sl3, i64_w, i32_w]
                    rfl
                  refine pu_ 8 (some 60) (bz 13 511) HT_.out ?_
                  refine pu_ 9 (some 69) (bz 13 1023) HT_.out ?_
                  refine pu_ 10 (some 70) (bz 13 2047) HT_.out ?_
                  refine pu_ 11 (some 10) (bz 13 4095) HT_.out ?_
                  refine pu_ 12 (some 11) (bz 13 8191) HT_.out ?_
                  refine done_ (done_of HT_.out (by kernel_rfl)) ?_
                  clear HT_ HW_ hHeld HQd HFd HX HFr HFr2 HC f0_ f1_ f2_ f3_ f4_ hat0
                  obtain ⟨f0_, f1_, f2_, f3_, f4_, _, _, _, _, _⟩ := bx5 HF4.out
                  have HBz := Aside0.mk (below_step HB1.out HQ4.out.two.Bl)
                  go_wp2
                  go_ret
                  exact ⟨rfl, HBz.out⟩
                · subst hf3
                  have hlep : (x.l 0).epoch = 3 := (HI.out.en 0 (by decide)).ep
                  have hT := deaf (f := ⟨F0, 3, F2, F3, F4⟩) hlep (HI.out.en 0 (by decide)).pr (by show ¬ (5 < F0 ∨ F0 = 5 ∧ 3 = 3); omega)
                  have HPE : Aside0 (∀ W, PairIs W1 W B x → Calls Try.prog 25 #[.pointer (some ⟨B.g 0, 0, none⟩)] W fun e w' => e = .returned (.int .i64 0) ∧ w' = W) := ⟨fun W h => (peer_calls _ _ _ _ W (h.lk 0 (by decide))).mono fun e w' h => ⟨by rw [h.1, hpe], h.2⟩⟩
                  obtain ⟨nw, hnw⟩ : ∃ nw, (x.l 0).wait.length = nw := ⟨_, rfl⟩
                  have HWA : Aside0 (∀ W, PairIs W1 W B x → Calls Try.prog 12 #[.pointer (some ⟨B.g 0, 0, none⟩)] W fun e w' => e = .returned (.int .i64 (nw : Int)) ∧ w' = W) := ⟨fun W h => (waiting_calls _ _ _ _ W (h.lk 0 (by decide))).mono fun e w' h => ⟨by rw [h.1, hnw], h.2⟩⟩
                  have hlok := HI.out.ok 0 (by decide)
                  obtain ⟨l', hl'⟩ : ∃ l', ((x.l 0).take ⟨F0, 3, F2, F3, F4⟩).1 = l' := ⟨_, rfl⟩
                  obtain ⟨bs, hbs⟩ : ∃ bs, ((x.l 0).take ⟨F0, 3, F2, F3, F4⟩).2.1 = bs := ⟨_, rfl⟩
                  obtain ⟨nb, hnb⟩ : ∃ nb, bs.length = nb := ⟨_, rfl⟩
                  have HT3 : Aside0 ((x.l 0).take ⟨F0, 3, F2, F3, F4⟩ = (l', bs, false)) := ⟨by rw [← hl', ← hbs, ← hT.1]⟩
                  have HC : Aside0 (∀ W, PairIs W1 W B x → Calls Try.prog 18 #[.pointer (some ⟨B.g 0, 0, none⟩), .agg #[.int .i64 F0, .int .i64 3, .int .i64 F2, .int .i64 F3, .string F4]] W (TakeP W W1.heap.size W.heap.size (B.g 0) (B.V 0) l' bs nb)) := ⟨fun W h => by
                    have h1 := take_calls _ _ _ _ ⟨F0, 3, F2, F3, F4⟩ W (h.lk 0 (by decide)) hlok hF0.out
                    rw [HT3.out] at h1
                    rw [← hnb]
                    exact h1⟩
                  have hT2 := hT.2 (by rw [hpe]; show ¬ (3 = 3 ∧ (0 : Int) < F0); omega)
                  obtain rfl : nb = 0 := by rw [← hnb, ← hbs, hT2.1]; rfl
                  have hlw : l'.wait.length = nw := by rw [← hl', hT2.2, hnw]
                  have HLW := Aside0.mk hlw
                  clear hT2 hlw
                  have hhp : decide ((0 : Int) < F0) = false := decide_eq_false (by omega)
                  have hat := HX.out.at_l 0 (by decide)
                  have hat0 : wr.cell? ⟨B.gl, 0, none⟩ = some (.pointer (some ⟨B.g 0, 0, none⟩)) := hat
                  clear hlep hT hnw hlok hl' hbs hnb hpe hat
                  have HFr2 := HFr
                  go_wp2_with (first | (go_at_call 12; refine (HWA.out _ HX.out).mono ?_) | (go_at_call 25; refine (HPE.out _ HX.out).mono ?_))
                  rintro e W6 ⟨rfl, rfl⟩
                  clear HWA HPE
                  go_wp2
                  have HQd := Aside0.mk HX.out.drew
                  have HFd := Aside0.mk (blk_drew HFr2.out)
                  refine start_ (n := 13) (S := fun W => W.heap[B.gx]? = some (.cells #[.slice (some ⟨B.gl, 0, none⟩) 2 2, .slice (some ⟨B.gw, 0, none⟩) 2 2, .slice (some ⟨B.gs, 0, none⟩) 2 2, .slice (some ⟨B.gt, 0, none⟩) 2 2] 35 (0, 0)) ∧ W.heap[B.gl]? = some (.cells #[.pointer (some ⟨B.g 0, 0, none⟩), .pointer (some ⟨B.g 1, 0, none⟩)] 37 (0, 0)) ∧ W.heap[bf]? = some (.cells #[.int .i64 F0, .int .i64 3, .int .i64 F2, .int .i64 F3, .string F4] 46 (0, 0))) (ds := []) (bz 13 0) (by kernel_rfl) rfl rfl ⟨HQd.out.X, HQd.out.L, HFd.out⟩ (fun hHeld => ?_); refine with_tabW deR.tab13 deR.bits13 (fun HT_ HW_ => ?_)
                  generalize World.drew _ = W3 at hHeld HQd HFd ⊢
                  refine pu_ 0 (some 61) (bz 13 1) HT_.out ?_
                  refine pu_ 1 (some 62) (bz 13 3) HT_.out ?_
                  refine pu_ 2 (some 63) (bz 13 7) HT_.out ?_
                  refine take_ (i := 3) (N := (some 64)) (v := ?_) (a' := ?_) (bz 13 15) rfl rfl (take_ofW HT_.out HW_.out (by kernel_rfl)) (fun _ _ _ h => h) (Or.inl ⟨by rfl, ?_⟩) hHeld ?_ ?_
                  rotate_left
                  · rintro w' ⟨s0, s1, s2⟩
                    obtain ⟨x0, x1, x2, x3, _, _, _, _⟩ := bx4 s0
                    go_simp
                    with_reducible rfl
                  rotate_left
                  · simp only [Act.put, sl1, sl2, sl3, i64_w, i32_w]
                    rfl
                  refine pu_ 4 (some 65) (bz 13 31) HT_.out ?_
                  refine take_ (i := 5) (N := (some 66)) (v := ?_) (a' := ?_) (bz 13 63) rfl rfl (take_ofW HT_.out HW_.out (by kernel_rfl)) (fun _ _ _ h => h) (Or.inl ⟨by rfl, ?_⟩) hHeld ?_ ?_
                  rotate_left
                  · rintro w' ⟨s0, s1, s2⟩
                    have y0 : w'.cell? ⟨B.gl, 0, none⟩ = some (.pointer (some ⟨B.g 0, 0, none⟩)) := blk_cell s1 0
                    go_simp
                    with_reducible rfl
                  rotate_left
                  · simp only [Act.put, sl1, sl2, sl3, i64_w, i32_w]
                    rfl
                  refine take_ (i := 6) (N := (some 67)) (v := ?_) (a' := ?_) (bz 13 127) rfl rfl (take_ofW HT_.out HW_.out (by kernel_rfl)) (fun _ _ _ h => h) (Or.inl ⟨by rfl, ?_⟩) hHeld ?_ ?_
                  rotate_left
                  · rintro w' ⟨s0, s1, s2⟩
                    obtain ⟨z0_, z1_, z2_, z3_, z4_, _, _, _, _, _⟩ := bx5 s2
                    go_simp
                    with_reducible rfl
                  rotate_left
                  · simp only [Act.put, sl1, sl2, sl3, i64_w, i32_w]
                    rfl
                  refine one_ (i := 7) (N := (some 68)) (bz 13 255) rfl rfl (one_of HT_.out (by kernel_rfl)) (by decide) (fun K hK => ?_)
                  refine goes_ Try.func18 (by kernel_rfl) rfl #[.pointer (some ⟨B.g 0, 0, none⟩), .agg #[.int .i64 F0, .int .i64 3, .int .i64 F2, .int .i64 F3, .string F4]] (by rfl) rfl rfl am ?_
                  refine (HC.out _ HQd.out).mono ?_
                  rintro e w1 ⟨Ab, cb, rfl, hR, V1, hA, hO⟩
                  refine ⟨_, rfl, ?_⟩
                  have HQ4 := Aside0.mk (HQd.out.deed 0 (by decide) hA hO)
                  have HF4 := Aside0.mk (hO.box (HQd.out.lk 0 (by decide)) hHeld.2.2 (by decide) (by decide))
                  clear hR hA hO
                  refine hK.out _ _ ⟨HQ4.out.X, HQ4.out.L, HF4.out⟩ (fun hHeld => ?_)
                  clear hK K
                  refine norm_ (a' := ?_) ?_ ?_
                  rotate_left
                  · show Act.put _ (some 68) _ = _
                    simp only [Act.put, sl1, sl2, sl3, i64_w, i32_w]
                    rfl
                  refine pu_ 8 (some 60) (bz 13 511) HT_.out ?_
                  refine pu_ 9 (some 69) (bz 13 1023) HT_.out ?_
                  refine pu_ 10 (some 70) (bz 13 2047) HT_.out ?_
                  refine pu_ 11 (some 10) (bz 13 4095) HT_.out ?_
                  refine pu_ 12 (some 11) (bz 13 8191) HT_.out ?_
                  refine done_ (done_of HT_.out (by kernel_rfl)) ?_
                  clear HT_ HW_ hHeld HQd HFd HX HFr HFr2 HC f0_ f1_ f2_ f3_ f4_ hat0
                  obtain ⟨f0_, f1_, f2_, f3_, f4_, _, _, _, _, _⟩ := bx5 HF4.out
                  have HBz := Aside0.mk (below_step HB1.out HQ4.out.two.Bl)
                  have HWQ : Aside0 (∀ a : Nat, _) := ⟨wait_q (HQ4.out.lk 0 (by decide)) HLW.out⟩
                  have HWQ2 : Aside0 (∀ a : Nat, Calls Try.prog 12 #[.pointer (some ⟨B.g 0, 0, none⟩)] (w1.drewN a) fun e w' => e = .returned (.int .i64 (nw : Int)) ∧ ∃ m, w' = (w1.drewN a).drewN m) := ⟨HWQ.out⟩
                  obtain ⟨x0, x1, x2, x3, _, _, _, _⟩ := bx4 HQ4.out.X
                  have hat0 : w1.cell? ⟨B.gl, 0, none⟩ = some (.pointer (some ⟨B.g 0, 0, none⟩)) := HQ4.out.at_l 0 (by decide)
                  clear HWQ
                  go_wp2
                  go_quiet (first | (go_at_call 12; with_reducible exact Calls.quiet_of (HWQ2.out _)) | fail)
                  go_wp2
                  go_ret
                  exact ⟨rfl, pw_below_drewN HBz.out _⟩
              · subst hf3
                replace hpe : (x.l 0).peer = 5 := hpe.trans (by decide)
                have hlep : (x.l 0).epoch = 3 := (HI.out.en 0 (by decide)).ep
                have hT := deaf (f := ⟨F0, 3, F2, F3, F4⟩) hlep (HI.out.en 0 (by decide)).pr (by show ¬ (5 < F0 ∨ F0 = 5 ∧ 3 = 3); omega)
                have HPE : Aside0 (∀ W, PairIs W1 W B x → Calls Try.prog 25 #[.pointer (some ⟨B.g 0, 0, none⟩)] W fun e w' => e = .returned (.int .i64 5) ∧ w' = W) := ⟨fun W h => (peer_calls _ _ _ _ W (h.lk 0 (by decide))).mono fun e w' h => ⟨by rw [h.1, hpe], h.2⟩⟩
                obtain ⟨nw, hnw⟩ : ∃ nw, (x.l 0).wait.length = nw := ⟨_, rfl⟩
                have HWA : Aside0 (∀ W, PairIs W1 W B x → Calls Try.prog 12 #[.pointer (some ⟨B.g 0, 0, none⟩)] W fun e w' => e = .returned (.int .i64 (nw : Int)) ∧ w' = W) := ⟨fun W h => (waiting_calls _ _ _ _ W (h.lk 0 (by decide))).mono fun e w' h => ⟨by rw [h.1, hnw], h.2⟩⟩
                have hlok := HI.out.ok 0 (by decide)
                obtain ⟨l', hl'⟩ : ∃ l', ((x.l 0).take ⟨F0, 3, F2, F3, F4⟩).1 = l' := ⟨_, rfl⟩
                obtain ⟨bs, hbs⟩ : ∃ bs, ((x.l 0).take ⟨F0, 3, F2, F3, F4⟩).2.1 = bs := ⟨_, rfl⟩
                obtain ⟨nb, hnb⟩ : ∃ nb, bs.length = nb := ⟨_, rfl⟩
                have HT3 : Aside0 ((x.l 0).take ⟨F0, 3, F2, F3, F4⟩ = (l', bs, false)) := ⟨by rw [← hl', ← hbs, ← hT.1]⟩
                have HC : Aside0 (∀ W, PairIs W1 W B x → Calls Try.prog 18 #[.pointer (some ⟨B.g 0, 0, none⟩), .agg #[.int .i64 F0, .int .i64 3, .int .i64 F2, .int .i64 F3, .string F4]] W (TakeP W W1.heap.size W.heap.size (B.g 0) (B.V 0) l' bs nb)) := ⟨fun W h => by
                  have h1 := take_calls _ _ _ _ ⟨F0, 3, F2, F3, F4⟩ W (h.lk 0 (by decide)) hlok hF0.out
                  rw [HT3.out] at h1
                  rw [← hnb]
                  exact h1⟩
                have hT2 := hT.2 (by rw [hpe]; show ¬ (3 = 3 ∧ (5 : Int) < F0); omega)
                obtain rfl : nb = 0 := by rw [← hnb, ← hbs, hT2.1]; rfl
                have hlw : l'.wait.length = nw := by rw [← hl', hT2.2, hnw]
                have HLW := Aside0.mk hlw
                clear hT2 hlw
                have hhp : decide ((5 : Int) < F0) = false := decide_eq_false (by omega)
                have hat := HX.out.at_l 0 (by decide)
                have hat0 : wr.cell? ⟨B.gl, 0, none⟩ = some (.pointer (some ⟨B.g 0, 0, none⟩)) := hat
                clear hlep hT hnw hlok hl' hbs hnb hpe hat
                have HFr2 := HFr
                go_wp2_with (first | (go_at_call 12; refine (HWA.out _ HX.out).mono ?_) | (go_at_call 25; refine (HPE.out _ HX.out).mono ?_))
                rintro e W6 ⟨rfl, rfl⟩
                clear HWA HPE
                go_wp2
                have HQd := Aside0.mk HX.out.drew
                have HFd := Aside0.mk (blk_drew HFr2.out)
                refine start_ (n := 13) (S := fun W => W.heap[B.gx]? = some (.cells #[.slice (some ⟨B.gl, 0, none⟩) 2 2, .slice (some ⟨B.gw, 0, none⟩) 2 2, .slice (some ⟨B.gs, 0, none⟩) 2 2, .slice (some ⟨B.gt, 0, none⟩) 2 2] 35 (0, 0)) ∧ W.heap[B.gl]? = some (.cells #[.pointer (some ⟨B.g 0, 0, none⟩), .pointer (some ⟨B.g 1, 0, none⟩)] 37 (0, 0)) ∧ W.heap[bf]? = some (.cells #[.int .i64 F0, .int .i64 3, .int .i64 F2, .int .i64 F3, .string F4] 46 (0, 0))) (ds := []) (bz 13 0) (by kernel_rfl) rfl rfl ⟨HQd.out.X, HQd.out.L, HFd.out⟩ (fun hHeld => ?_); refine with_tabW deR.tab13 deR.bits13 (fun HT_ HW_ => ?_)
                generalize World.drew _ = W3 at hHeld HQd HFd ⊢
                refine pu_ 0 (some 61) (bz 13 1) HT_.out ?_
                refine pu_ 1 (some 62) (bz 13 3) HT_.out ?_
                refine pu_ 2 (some 63) (bz 13 7) HT_.out ?_
                refine take_ (i := 3) (N := (some 64)) (v := ?_) (a' := ?_) (bz 13 15) rfl rfl (take_ofW HT_.out HW_.out (by kernel_rfl)) (fun _ _ _ h => h) (Or.inl ⟨by rfl, ?_⟩) hHeld ?_ ?_
                rotate_left
                · rintro w' ⟨s0, s1, s2⟩
                  obtain ⟨x0, x1, x2, x3, _, _, _, _⟩ := bx4 s0
                  go_simp
                  with_reducible rfl
                rotate_left
                · simp only [Act.put, sl1, sl2, sl3, i64_w, i32_w]
                  rfl
                refine pu_ 4 (some 65) (bz 13 31) HT_.out ?_
                refine take_ (i := 5) (N := (some 66)) (v := ?_) (a' := ?_) (bz 13 63) rfl rfl (take_ofW HT_.out HW_.out (by kernel_rfl)) (fun _ _ _ h => h) (Or.inl ⟨by rfl, ?_⟩) hHeld ?_ ?_
                rotate_left
                · rintro w' ⟨s0, s1, s2⟩
                  have y0 : w'.cell? ⟨B.gl, 0, none⟩ = some (.pointer (some ⟨B.g 0, 0, none⟩)) := blk_cell s1 0
                  go_simp
                  with_reducible rfl
                rotate_left
                · simp only [Act.put, sl1, sl2, sl3, i64_w, i32_w]
                  rfl
                refine take_ (i := 6) (N := (some 67)) (v := ?_) (a' := ?_) (bz 13 127) rfl rfl (take_ofW HT_.out HW_.out (by kernel_rfl)) (fun _ _ _ h => h) (Or.inl ⟨by rfl, ?_⟩) hHeld ?_ ?_
                rotate_left
                · rintro w' ⟨s0, s1, s2⟩
                  obtain ⟨z0_, z1_, z2_, z3_, z4_, _, _, _, _, _⟩ := bx5 s2
                  go_simp
                  with_reducible rfl
                rotate_left
                · simp only [Act.put, sl1, sl2, sl3, i64_w, i32_w]
                  rfl
                refine one_ (i := 7) (N := (some 68)) (bz 13 255) rfl rfl (one_of HT_.out (by kernel_rfl)) (by decide) (fun K hK => ?_)
                refine goes_ Try.func18 (by kernel_rfl) rfl #[.pointer (some ⟨B.g 0, 0, none⟩), .agg #[.int .i64 F0, .int .i64 3, .int .i64 F2, .int .i64 F3, .string F4]] (by rfl) rfl rfl am ?_
                refine (HC.out _ HQd.out).mono ?_
                rintro e w1 ⟨Ab, cb, rfl, hR, V1, hA, hO⟩
                refine ⟨_, rfl, ?_⟩
                have HQ4 := Aside0.mk (HQd.out.deed 0 (by decide) hA hO)
                have HF4 := Aside0.mk (hO.box (HQd.out.lk 0 (by decide)) hHeld.2.2 (by decide) (by decide))
                clear hR hA hO
                refine hK.out _ _ ⟨HQ4.out.X, HQ4.out.L, HF4.out⟩ (fun hHeld => ?_)
                clear hK K
                refine norm_ (a' := ?_) ?_ ?_
                rotate_left
                · show Act.put _ (some 68) _ = _
                  simp only [Act.put, sl1, sl2, sl3, i64_w, i32_w]
                  rfl
                refine pu_ 8 (some 60) (bz 13 511) HT_.out ?_
                refine pu_ 9 (some 69) (bz 13 1023) HT_.out ?_
                refine pu_ 10 (some 70) (bz 13 2047) HT_.out ?_
                refine pu_ 11 (some 10) (bz 13 4095) HT_.out ?_
                refine pu_ 12 (some 11) (bz 13 8191) HT_.out ?_
                refine done_ (done_of HT_.out (by kernel_rfl)) ?_
                clear HT_ HW_ hHeld HQd HFd HX HFr HFr2 HC f0_ f1_ f2_ f3_ f4_ hat0
                obtain ⟨f0_, f1_, f2_, f3_, f4_, _, _, _, _, _⟩ := bx5 HF4.out
                have HBz := Aside0.mk (below_step HB1.out HQ4.out.two.Bl)
                have HWQ : Aside0 (∀ a : Nat, _) := ⟨wait_q (HQ4.out.lk 0 (by decide)) HLW.out⟩
                have HWQ2 : Aside0 (∀ a : Nat, Calls Try.prog 12 #[.pointer (some ⟨B.g 0, 0, none⟩)] (w1.drewN a) fun e w' => e = .returned (.int .i64 (nw : Int)) ∧ ∃ m, w' = (w1.drewN a).drewN m) := ⟨HWQ.out⟩
                obtain ⟨x0, x1, x2, x3, _, _, _, _⟩ := bx4 HQ4.out.X
                have hat0 : w1.cell? ⟨B.gl, 0, none⟩ = some (.pointer (some ⟨B.g 0, 0, none⟩)) := HQ4.out.at_l 0 (by decide)
                clear HWQ
                go_wp2
                go_quiet (first | (go_at_call 12; with_reducible exact Calls.quiet_of (HWQ2.out _)) | fail)
                go_wp2
                go_ret
                exact ⟨rfl, pw_below_drewN HBz.out _⟩
            · rcases (HI.out.en 0 (by decide)).pr with hpe | hpe
              · by_cases hf0 : 0 < F0
                · have hlep : (x.l 0).epoch = 3 := (HI.out.en 0 (by decide)).ep
                  have hT := deaf (f := ⟨F0, F1, F2, F3, F4⟩) hlep (HI.out.en 0 (by decide)).pr (by show ¬ (5 < F0 ∨ F0 = 5 ∧ F1 = 3); omega)
                  have HPE : Aside0 (∀ W, PairIs W1 W B x → Calls Try.prog 25 #[.pointer (some ⟨B.g 0, 0, none⟩)] W fun e w' => e = .returned (.int .i64 0) ∧ w' = W) := ⟨fun W h => (peer_calls _ _ _ _ W (h.lk 0 (by decide))).mono fun e w' h => ⟨by rw [h.1, hpe], h.2⟩⟩
                  obtain ⟨nw, hnw⟩ : ∃ nw, (x.l 0).wait.length = nw := ⟨_, rfl⟩
                  have HWA : Aside0 (∀ W, PairIs W1 W B x → Calls Try.prog 12 #[.pointer (some ⟨B.g 0, 0, none⟩)] W fun e w' => e = .returned (.int .i64 (nw : Int)) ∧ w' = W) := ⟨fun W h => (waiting_calls _ _ _ _ W (h.lk 0 (by decide))).mono fun e w' h => ⟨by rw [h.1, hnw], h.2⟩⟩
                  have hlok := HI.out.ok 0 (by decide)
                  obtain ⟨l', hl'⟩ : ∃ l', ((x.l 0).take ⟨F0, F1, F2, F3, F4⟩).1 = l' := ⟨_, rfl⟩
                  obtain ⟨bs, hbs⟩ : ∃ bs, ((x.l 0).take ⟨F0, F1, F2, F3, F4⟩).2.1 = bs := ⟨_, rfl⟩
                  obtain ⟨nb, hnb⟩ : ∃ nb, bs.length = nb := ⟨_, rfl⟩
                  have HT3 : Aside0 ((x.l 0).take ⟨F0, F1, F2, F3, F4⟩ = (l', bs, false)) := ⟨by rw [← hl', ← hbs, ← hT.1]⟩
                  have HC : Aside0 (∀ W, PairIs W1 W B x → Calls Try.prog 18 #[.pointer (some ⟨B.g 0, 0, none⟩), .agg #[.int .i64 F0, .int .i64 F1, .int .i64 F2, .int .i64 F3, .string F4]] W (TakeP W W1.heap.size W.heap.size (B.g 0) (B.V 0) l' bs nb)) := ⟨fun W h => by
                    have h1 := take_calls _ _ _ _ ⟨F0, F1, F2, F3, F4⟩ W (h.lk 0 (by decide)) hlok hF0.out
                    rw [HT3.out] at h1
                    rw [← hnb]
                    exact h1⟩
                  have hT2 := hT.2 (by rw [hpe]; show ¬ (F1 = 3 ∧ (0 : Int) < F0); omega)
                  obtain rfl : nb = 0 := by rw [← hnb, ← hbs, hT2.1]; rfl
                  have hlw : l'.wait.length = nw := by rw [← hl', hT2.2, hnw]
                  have HLW := Aside0.mk hlw
                  clear hT2 hlw
                  have hh3 : (F1 == 3) = false := beq_eq_false_iff_ne.mpr (by omega)
                  have hhp : decide ((0 : Int) < F0) = true := decide_eq_true (by omega)
                  have hat := HX.out.at_l 0 (by decide)
                  have hat0 : wr.cell? ⟨B.gl, 0, none⟩ = some (.pointer (some ⟨B.g 0, 0, none⟩)) := hat
                  clear hlep hT hnw hlok hl' hbs hnb hpe hat
                  have HFr2 := HFr
                  go_wp2_with (first | (go_at_call 12; refine (HWA.out _ HX.out).mono ?_) | (go_at_call 25; refine (HPE.out _ HX.out).mono ?_))
                  rintro e W6 ⟨rfl, rfl⟩
                  clear HWA HPE
                  go_wp2
                  have HQd := Aside0.mk HX.out.drew
                  have HFd := Aside0.mk (blk_drew HFr2.out)
                  refine start_ (n := 13) (S := fun W => W.heap[B.gx]? = some (.cells #[.slice (some ⟨B.gl, 0, none⟩) 2 2, .slice (some ⟨B.gw, 0, none⟩) 2 2, .slice (some ⟨B.gs, 0, none⟩) 2 2, .slice (some ⟨B.gt, 0, none⟩) 2 2] 35 (0, 0)) ∧ W.heap[B.gl]? = some (.cells #[.pointer (some ⟨B.g 0, 0, none⟩), .pointer (some ⟨B.g 1, 0, none⟩)] 37 (0, 0)) ∧ W.heap[bf]? = some (.cells #[.int .i64 F0, .int .i64 F1, .int .i64 F2, .int .i64 F3, .string F4] 46 (0, 0))) (ds := []) (bz 13 0) (by kernel_rfl) rfl rfl ⟨HQd.out.X, HQd.out.L, HFd.out⟩ (fun hHeld => ?_); refine with_tabW deR.tab13 deR.bits13 (fun HT_ HW_ => ?_)
                  generalize World.drew _ = W3 at hHeld HQd HFd ⊢
                  refine pu_ 0 (some 61) (bz 13 1) HT_.out ?_
                  refine pu_ 1 (some 62) (bz 13 3) HT_.out ?_
                  refine pu_ 2 (some 63) (bz 13 7) HT_.out ?_
                  refine take_ (i := 3) (N := (some 64)) (v := ?_) (a' := ?_) (bz 13 15) rfl rfl (take_ofW HT_.out HW_.out (by kernel_rfl)) (fun _ _ _ h => h) (Or.inl ⟨by rfl, ?_⟩) hHeld ?_ ?_
                  rotate_left
                  · rintro w' ⟨s0, s1, s2⟩
                    obtain ⟨x0, x1, x2, x3, _, _, _, _⟩ := bx4 s0
                    go_simp
                    with_reducible rfl
                  rotate_left
                  · simp only [Act.put, sl1, sl2, sl3, i64_w, i32_w]
                    rfl
                  refine pu_ 4 (some 65) (bz 13 31) HT_.out ?_
                  refine take_ (i := 5) (N := (some 66)) (v := ?_) (a' := ?_) (bz 13 63) rfl rfl (take_ofW HT_.out HW_.out (by kernel_rfl)) (fun _ _ _ h => h) (Or.inl ⟨by rfl, ?_⟩) hHeld ?_ ?_
                  rotate_left
                  · rintro w' ⟨s0, s1, s2⟩
                    have y0 : w'.cell? ⟨B.gl, 0, none⟩ = some (.pointer (some ⟨B.g 0, 0, none⟩)) := blk_cell s1 0
                    go_simp
                    with_reducible rfl
                  rotate_left
                  · simp only [Act.put, sl1, sl2, sl3, i64_w, i32_w]
                    rfl
                  refine take_ (i := 6) (N := (some 67)) (v := ?_) (a' := ?_) (bz 13 127) rfl rfl (take_ofW HT_.out HW_.out (by kernel_rfl)) (fun _ _ _ h => h) (Or.inl ⟨by rfl, ?_⟩) hHeld ?_ ?_
                  rotate_left
                  · rintro w' ⟨s0, s1, s2⟩
                    obtain ⟨z0_, z1_, z2_, z3_, z4_, _, _, _, _, _⟩ := bx5 s2
                    go_simp
                    with_reducible rfl
                  rotate_left
                  · simp only [Act.put, sl1, sl2, sl3, i64_w, i32_w]
                    rfl
                  refine one_ (i := 7) (N := (some 68)) (bz 13 255) rfl rfl (one_of HT_.out (by kernel_rfl)) (by decide) (fun K hK => ?_)
                  refine goes_ Try.func18 (by kernel_rfl) rfl #[.pointer (some ⟨B.g 0, 0, none⟩), .agg #[.int .i64 F0, .int .i64 F1, .int .i64 F2, .int .i64 F3, .string F4]] (by rfl) rfl rfl am ?_
                  refine (HC.out _ HQd.out).mono ?_
                  rintro e w1 ⟨Ab, cb, rfl, hR, V1, hA, hO⟩
                  refine ⟨_, rfl, ?_⟩
                  have HQ4 := Aside0.mk (HQd.out.deed 0 (by decide) hA hO)
                  have HF4 := Aside0.mk (hO.box (HQd.out.lk 0 (by decide)) hHeld.2.2 (by decide) (by decide))
                  clear hR hA hO
                  refine hK.out _ _ ⟨HQ4.out.X, HQ4.out.L, HF4.out⟩ (fun hHeld => ?_)
                  clear hK K
                  refine norm_ (a' := ?_) ?_ ?_
                  rotate_left
                  · show Act.put _ (some 68) _ = _
                    simp only [Act.put, sl1, sl2, sl3, i64_w, i32_w]
                    rfl
                  refine pu_ 8 (some 60) (bz 13 511) HT_.out ?_
                  refine pu_ 9 (some 69) (bz 13 1023) HT_.out ?_
                  refine pu_ 10 (some 70) (bz 13 2047) HT_.out ?_
                  refine pu_ 11 (some 10) (bz 13 4095) HT_.out ?_
                  refine pu_ 12 (some 11) (bz 13 8191) HT_.out ?_
                  refine done_ (done_of HT_.out (by kernel_rfl)) ?_
                  clear HT_ HW_ hHeld HQd HFd HX HFr HFr2 HC f0_ f1_ f2_ f3_ f4_ hat0
                  obtain ⟨f0_, f1_, f2_, f3_, f4_, _, _, _, _, _⟩ := bx5 HF4.out
                  have HBz := Aside0.mk (below_step HB1.out HQ4.out.two.Bl)
                  have HWQ : Aside0 (∀ a : Nat, _) := ⟨wait_q (HQ4.out.lk 0 (by decide)) HLW.out⟩
                  have HWQ2 : Aside0 (∀ a : Nat, Calls Try.prog 12 #[.pointer (some ⟨B.g 0, 0, none⟩)] (w1.drewN a) fun e w' => e = .returned (.int .i64 (nw : Int)) ∧ ∃ m, w' = (w1.drewN a).drewN m) := ⟨HWQ.out⟩
                  obtain ⟨x0, x1, x2, x3, _, _, _, _⟩ := bx4 HQ4.out.X
                  have hat0 : w1.cell? ⟨B.gl, 0, none⟩ = some (.pointer (some ⟨B.g 0, 0, none⟩)) := HQ4.out.at_l 0 (by decide)
                  clear HWQ
                  go_wp2
                  go_quiet (first | (go_at_call 12; with_reducible exact Calls.quiet_of (HWQ2.out _)) | fail)
                  go_wp2
                  go_ret
                  exact ⟨rfl, pw_below_drewN HBz.out _⟩
                · have hlep : (x.l 0).epoch = 3 := (HI.out.en 0 (by decide)).ep
                  have hT := deaf (f := ⟨F0, F1, F2, F3, F4⟩) hlep (HI.out.en 0 (by decide)).pr (by show ¬ (5 < F0 ∨ F0 = 5 ∧ F1 = 3); omega)
                  have HPE : Aside0 (∀ W, PairIs W1 W B x → Calls Try.prog 25 #[.pointer (some ⟨B.g 0, 0, none⟩)] W fun e w' => e = .returned (.int .i64 0) ∧ w' = W) := ⟨fun W h => (peer_calls _ _ _ _ W (h.lk 0 (by decide))).mono fun e w' h => ⟨by rw [h.1, hpe], h.2⟩⟩
                  obtain ⟨nw, hnw⟩ : ∃ nw, (x.l 0).wait.length = nw := ⟨_, rfl⟩
                  have HWA : Aside0 (∀ W, PairIs W1 W B x → Calls Try.prog 12 #[.pointer (some ⟨B.g 0, 0, none⟩)] W fun e w' => e = .returned (.int .i64 (nw : Int)) ∧ w' = W) := ⟨fun W h => (waiting_calls _ _ _ _ W (h.lk 0 (by decide))).mono fun e w' h => ⟨by rw [h.1, hnw], h.2⟩⟩
                  have hlok := HI.out.ok 0 (by decide)
                  obtain ⟨l', hl'⟩ : ∃ l', ((x.l 0).take ⟨F0, F1, F2, F3, F4⟩).1 = l' := ⟨_, rfl⟩
                  obtain ⟨bs, hbs⟩ : ∃ bs, ((x.l 0).take ⟨F0, F1, F2, F3, F4⟩).2.1 = bs := ⟨_, rfl⟩
                  obtain ⟨nb, hnb⟩ : ∃ nb, bs.length = nb := ⟨_, rfl⟩
                  have HT3 : Aside0 ((x.l 0).take ⟨F0, F1, F2, F3, F4⟩ = (l', bs, false)) := ⟨by rw [← hl', ← hbs, ← hT.1]⟩
                  have HC : Aside0 (∀ W, PairIs W1 W B x → Calls Try.prog 18 #[.pointer (some ⟨B.g 0, 0, none⟩), .agg #[.int .i64 F0, .int .i64 F1, .int .i64 F2, .int .i64 F3, .string F4]] W (TakeP W W1.heap.size W.heap.size (B.g 0) (B.V 0) l' bs nb)) := ⟨fun W h => by
                    have h1 := take_calls _ _ _ _ ⟨F0, F1, F2, F3, F4⟩ W (h.lk 0 (by decide)) hlok hF0.out
                    rw [HT3.out] at h1
                    rw [← hnb]
                    exact h1⟩
                  have hT2 := hT.2 (by rw [hpe]; show ¬ (F1 = 3 ∧ (0 : Int) < F0); omega)
                  obtain rfl : nb = 0 := by rw [← hnb, ← hbs, hT2.1]; rfl
                  have hlw : l'.wait.length = nw := by rw [← hl', hT2.2, hnw]
                  have HLW := Aside0.mk hlw
                  clear hT2 hlw
                  have hh3 : (F1 == 3) = false := beq_eq_false_iff_ne.mpr (by omega)
                  have hhp : decide ((0 : Int) < F0) = false := decide_eq_false (by omega)
                  have hat := HX.out.at_l 0 (by decide)
                  have hat0 : wr.cell? ⟨B.gl, 0, none⟩ = some (.pointer (some ⟨B.g 0, 0, none⟩)) := hat
                  clear hlep hT hnw hlok hl' hbs hnb hpe hat
                  have HFr2 := HFr
                  go_wp2_with (first | (go_at_call 12; refine (HWA.out _ HX.out).mono ?_) | (go_at_call 25; refine (HPE.out _ HX.out).mono ?_))
                  rintro e W6 ⟨rfl, rfl⟩
                  clear HWA HPE
                  go_wp2
                  have HQd := Aside0.mk HX.out.drew
                  have HFd := Aside0.mk (blk_drew HFr2.out)
                  refine start_ (n := 13) (S := fun W => W.heap[B.gx]? = some (.cells #[.slice (some ⟨B.gl, 0, none⟩) 2 2, .slice (some ⟨B.gw, 0, none⟩) 2 2, .slice (some ⟨B.gs, 0, none⟩) 2 2, .slice (some ⟨B.gt, 0, none⟩) 2 2] 35 (0, 0)) ∧ W.heap[B.gl]? = some (.cells #[.pointer (some ⟨B.g 0, 0, none⟩), .pointer (some ⟨B.g 1, 0, none⟩)] 37 (0, 0)) ∧ W.heap[bf]? = some (.cells #[.int .i64 F0, .int .i64 F1, .int .i64 F2, .int .i64 F3, .string F4] 46 (0, 0))) (ds := []) (bz 13 0) (by kernel_rfl) rfl rfl ⟨HQd.out.X, HQd.out.L, HFd.out⟩ (fun hHeld => ?_); refine with_tabW deR.tab13 deR.bits13 (fun HT_ HW_ => ?_)
                  generalize World.drew _ = W3 at hHeld HQd HFd ⊢
                  refine pu_ 0 (some 61) (bz 13 1) HT_.out ?_
                  refine pu_ 1 (some 62) (bz 13 3) HT_.out ?_
                  refine pu_ 2 (some 63) (bz 13 7) HT_.out ?_
                  refine take_ (i := 3) (N := (some 64)) (v := ?_) (a' := ?_) (bz 13 15) rfl rfl (take_ofW HT_.out HW_.out (by kernel_rfl)) (fun _ _ _ h => h) (Or.inl ⟨by rfl, ?_⟩) hHeld ?_ ?_
                  rotate_left
                  · rintro w' ⟨s0, s1, s2⟩
                    obtain ⟨x0, x1, x2, x3, _, _, _, _⟩ := bx4 s0
                    go_simp
                    with_reducible rfl
                  rotate_left
                  · simp only [Act.put, sl1, sl2, sl3, i64_w, i32_w]
                    rfl
                  refine pu_ 4 (some 65) (bz 13 31) HT_.out ?_
                  refine take_ (i := 5) (N := (some 66)) (v := ?_) (a' := ?_) (bz 13 63) rfl rfl (take_ofW HT_.out HW_.out (by kernel_rfl)) (fun _ _ _ h => h) (Or.inl ⟨by rfl, ?_⟩) hHeld ?_ ?_
                  rotate_left
                  · rintro w' ⟨s0, s1, s2⟩
                    have y0 : w'.cell? ⟨B.gl, 0, none⟩ = some (.pointer (some ⟨B.g 0, 0, none⟩)) := blk_cell s1 0
                    go_simp
                    with_reducible rfl
                  rotate_left
                  · simp only [Act.put, sl1, sl2, sl3, i64_w, i32_w]
                    rfl
                  refine take_ (i := 6) (N := (some 67)) (v := ?_) (a' := ?_) (bz 13 127) rfl rfl (take_ofW HT_.out HW_.out (by kernel_rfl)) (fun _ _ _ h => h) (Or.inl ⟨by rfl, ?_⟩) hHeld ?_ ?_
                  rotate_left
                  · rintro w' ⟨s0, s1, s2⟩
                    obtain ⟨z0_, z1_, z2_, z3_, z4_, _, _, _, _, _⟩ := bx5 s2
                    go_simp
                    with_reducible rfl
                  rotate_left
                  · simp only [Act.put, sl1, sl2, sl3, i64_w, i32_w]
                    rfl
                  refine one_ (i := 7) (N := (some 68)) (bz 13 255) rfl rfl (one_of HT_.out (by kernel_rfl)) (by decide) (fun K hK => ?_)
                  refine goes_ Try.func18 (by kernel_rfl) rfl #[.pointer (some ⟨B.g 0, 0, none⟩), .agg #[.int .i64 F0, .int .i64 F1, .int .i64 F2, .int .i64 F3, .string F4]] (by rfl) rfl rfl am ?_
                  refine (HC.out _ HQd.out).mono ?_
                  rintro e w1 ⟨Ab, cb, rfl, hR, V1, hA, hO⟩
                  refine ⟨_, rfl, ?_⟩
                  have HQ4 := Aside0.mk (HQd.out.deed 0 (by decide) hA hO)
                  have HF4 := Aside0.mk (hO.box (HQd.out.lk 0 (by decide)) hHeld.2.2 (by decide) (by decide))
                  clear hR hA hO
                  refine hK.out _ _ ⟨HQ4.out.X, HQ4.out.L, HF4.out⟩ (fun hHeld => ?_)
                  clear hK K
                  refine norm_ (a' := ?_) ?_ ?_
                  rotate_left
                  · show Act.put _ (some 68) _ = _
                    simp only [Act.put, sl1, sl2, sl3, i64_w, i32_w]
                    rfl
                  refine pu_ 8 (some 60) (bz 13 511) HT_.out ?_
                  refine pu_ 9 (some 69) (bz 13 1023) HT_.out ?_
                  refine pu_ 10 (some 70) (bz 13 2047) HT_.out ?_
                  refine pu_ 11 (some 10) (bz 13 4095) HT_.out ?_
                  refine pu_ 12 (some 11) (bz 13 8191) HT_.out ?_
                  refine done_ (done_of HT_.out (by kernel_rfl)) ?_
                  clear HT_ HW_ hHeld HQd HFd HX HFr HFr2 HC f0_ f1_ f2_ f3_ f4_ hat0
                  obtain ⟨f0_, f1_, f2_, f3_, f4_, _, _, _, _, _⟩ := bx5 HF4.out
                  have HBz := Aside0.mk (below_step HB1.out HQ4.out.two.Bl)
                  have HWQ : Aside0 (∀ a : Nat, _) := ⟨wait_q (HQ4.out.lk 0 (by decide)) HLW.out⟩
                  have HWQ2 : Aside0 (∀ a : Nat, Calls Try.prog 12 #[.pointer (some ⟨B.g 0, 0, none⟩)] (w1.drewN a) fun e w' => e = .returned (.int .i64 (nw : Int)) ∧ ∃ m, w' = (w1.drewN a).drewN m) := ⟨HWQ.out⟩
                  obtain ⟨x0, x1, x2, x3, _, _, _, _⟩ := bx4 HQ4.out.X
                  have hat0 : w1.cell? ⟨B.gl, 0, none⟩ = some (.pointer (some ⟨B.g 0, 0, none⟩)) := HQ4.out.at_l 0 (by decide)
                  clear HWQ
                  go_wp2
                  go_quiet (first | (go_at_call 12; with_reducible exact Calls.quiet_of (HWQ2.out _)) | fail)
                  go_wp2
                  go_ret
                  exact ⟨rfl, pw_below_drewN HBz.out _⟩
              · replace hpe : (x.l 0).peer = 5 := hpe.trans (by decide)
                have hlep : (x.l 0).epoch = 3 := (HI.out.en 0 (by decide)).ep
                have hT := deaf (f := ⟨F0, F1, F2, F3, F4⟩) hlep (HI.out.en 0 (by decide)).pr (by show ¬ (5 < F0 ∨ F0 = 5 ∧ F1 = 3); omega)
                have HPE : Aside0 (∀ W, PairIs W1 W B x → Calls Try.prog 25 #[.pointer (some ⟨B.g 0, 0, none⟩)] W fun e w' => e = .returned (.int .i64 5) ∧ w' = W) := ⟨fun W h => (peer_calls _ _ _ _ W (h.lk 0 (by decide))).mono fun e w' h => ⟨by rw [h.1, hpe], h.2⟩⟩
                obtain ⟨nw, hnw⟩ : ∃ nw, (x.l 0).wait.length = nw := ⟨_, rfl⟩
                have HWA : Aside0 (∀ W, PairIs W1 W B x → Calls Try.prog 12 #[.pointer (some ⟨B.g 0, 0, none⟩)] W fun e w' => e = .returned (.int .i64 (nw : Int)) ∧ w' = W) := ⟨fun W h => (waiting_calls _ _ _ _ W (h.lk 0 (by decide))).mono fun e w' h => ⟨by rw [h.1, hnw], h.2⟩⟩
                have hlok := HI.out.ok 0 (by decide)
                obtain ⟨l', hl'⟩ : ∃ l', ((x.l 0).take ⟨F0, F1, F2, F3, F4⟩).1 = l' := ⟨_, rfl⟩
                obtain ⟨bs, hbs⟩ : ∃ bs, ((x.l 0).take ⟨F0, F1, F2, F3, F4⟩).2.1 = bs := ⟨_, rfl⟩
                obtain ⟨nb, hnb⟩ : ∃ nb, bs.length = nb := ⟨_, rfl⟩
                have HT3 : Aside0 ((x.l 0).take ⟨F0, F1, F2, F3, F4⟩ = (l', bs, false)) := ⟨by rw [← hl', ← hbs, ← hT.1]⟩
                have HC : Aside0 (∀ W, PairIs W1 W B x → Calls Try.prog 18 #[.pointer (some ⟨B.g 0, 0, none⟩), .agg #[.int .i64 F0, .int .i64 F1, .int .i64 F2, .int .i64 F3, .string F4]] W (TakeP W W1.heap.size W.heap.size (B.g 0) (B.V 0) l' bs nb)) := ⟨fun W h => by
                  have h1 := take_calls _ _ _ _ ⟨F0, F1, F2, F3, F4⟩ W (h.lk 0 (by decide)) hlok hF0.out
                  rw [HT3.out] at h1
                  rw [← hnb]
                  exact h1⟩
                have hT2 := hT.2 (by rw [hpe]; show ¬ (F1 = 3 ∧ (5 : Int) < F0); omega)
                obtain rfl : nb = 0 := by rw [← hnb, ← hbs, hT2.1]; rfl
                have hlw : l'.wait.length = nw := by rw [← hl', hT2.2, hnw]
                have HLW := Aside0.mk hlw
                clear hT2 hlw
                have hh3 : (F1 == 3) = false := beq_eq_false_iff_ne.mpr (by omega)
                have hhp : decide ((5 : Int) < F0) = false := decide_eq_false (by omega)
                have hat := HX.out.at_l 0 (by decide)
                have hat0 : wr.cell? ⟨B.gl, 0, none⟩ = some (.pointer (some ⟨B.g 0, 0, none⟩)) := hat
                clear hlep hT hnw hlok hl' hbs hnb hpe hat
                have HFr2 := HFr
                go_wp2_with (first | (go_at_call 12; refine (HWA.out _ HX.out).mono ?_) | (go_at_call 25; refine (HPE.out _ HX.out).mono ?_))
                rintro e W6 ⟨rfl, rfl⟩
                clear HWA HPE
                go_wp2
                have HQd := Aside0.mk HX.out.drew
                have HFd := Aside0.mk (blk_drew HFr2.out)
                refine start_ (n := 13) (S := fun W => W.heap[B.gx]? = some (.cells #[.slice (some ⟨B.gl, 0, none⟩) 2 2, .slice (some ⟨B.gw, 0, none⟩) 2 2, .slice (some ⟨B.gs, 0, none⟩) 2 2, .slice (some ⟨B.gt, 0, none⟩) 2 2] 35 (0, 0)) ∧ W.heap[B.gl]? = some (.cells #[.pointer (some ⟨B.g 0, 0, none⟩), .pointer (some ⟨B.g 1, 0, none⟩)] 37 (0, 0)) ∧ W.heap[bf]? = some (.cells #[.int .i64 F0, .int .i64 F1, .int .i64 F2, .int .i64 F3, .string F4] 46 (0, 0))) (ds := []) (bz 13 0) (by kernel_rfl) rfl rfl ⟨HQd.out.X, HQd.out.L, HFd.out⟩ (fun hHeld => ?_); refine with_tabW deR.tab13 deR.bits13 (fun HT_ HW_ => ?_)
                generalize World.drew _ = W3 at hHeld HQd HFd ⊢
                refine pu_ 0 (some 61) (bz 13 1) HT_.out ?_
                refine pu_ 1 (some 62) (bz 13 3) HT_.out ?_
                refine pu_ 2 (some 63) (bz 13 7) HT_.out ?_
                refine take_ (i := 3) (N := (some 64)) (v := ?_) (a' := ?_) (bz 13 15) rfl rfl (take_ofW HT_.out HW_.out (by kernel_rfl)) (fun _ _ _ h => h) (Or.inl ⟨by rfl, ?_⟩) hHeld ?_ ?_
                rotate_left
                · rintro w' ⟨s0, s1, s2⟩
                  obtain ⟨x0, x1, x2, x3, _, _, _, _⟩ := bx4 s0
                  go_simp
                  with_reducible rfl
                rotate_left
                · simp only [Act.put, sl1, sl2, sl3, i64_w, i32_w]
                  rfl
                refine pu_ 4 (some 65) (bz 13 31) HT_.out ?_
                refine take_ (i := 5) (N := (some 66)) (v := ?_) (a' := ?_) (bz 13 63) rfl rfl (take_ofW HT_.out HW_.out (by kernel_rfl)) (fun _ _ _ h => h) (Or.inl ⟨by rfl, ?_⟩) hHeld ?_ ?_
                rotate_left
                · rintro w' ⟨s0, s1, s2⟩
                  have y0 : w'.cell? ⟨B.gl, 0, none⟩ = some (.pointer (some ⟨B.g 0, 0, none⟩)) := blk_cell s1 0
                  go_simp
                  with_reducible rfl
                rotate_left
                · simp only [Act.put, sl1, sl2, sl3, i64_w, i32_w]
                  rfl
                refine take_ (i := 6) (N := (some 67)) (v := ?_) (a' := ?_) (bz 13 127) rfl rfl (take_ofW HT_.out HW_.out (by kernel_rfl)) (fun _ _ _ h => h) (Or.inl ⟨by rfl, ?_⟩) hHeld ?_ ?_
                rotate_left
                · rintro w' ⟨s0, s1, s2⟩
                  obtain ⟨z0_, z1_, z2_, z3_, z4_, _, _, _, _, _⟩ := bx5 s2
                  go_simp
                  with_reducible rfl
                rotate_left
                · simp only [Act.put, sl1, sl2, sl3, i64_w, i32_w]
                  rfl
                refine one_ (i := 7) (N := (some 68)) (bz 13 255) rfl rfl (one_of HT_.out (by kernel_rfl)) (by decide) (fun K hK => ?_)
                refine goes_ Try.func18 (by kernel_rfl) rfl #[.pointer (some ⟨B.g 0, 0, none⟩), .agg #[.int .i64 F0, .int .i64 F1, .int .i64 F2, .int .i64 F3, .string F4]] (by rfl) rfl rfl am ?_
                refine (HC.out _ HQd.out).mono ?_
                rintro e w1 ⟨Ab, cb, rfl, hR, V1, hA, hO⟩
                refine ⟨_, rfl, ?_⟩
                have HQ4 := Aside0.mk (HQd.out.deed 0 (by decide) hA hO)
                have HF4 := Aside0.mk (hO.box (HQd.out.lk 0 (by decide)) hHeld.2.2 (by decide) (by decide))
                clear hR hA hO
                refine hK.out _ _ ⟨HQ4.out.X, HQ4.out.L, HF4.out⟩ (fun hHeld => ?_)
                clear hK K
                refine norm_ (a' := ?_) ?_ ?_
                rotate_left
                · show Act.put _ (some 68) _ = _
                  simp only [Act.put, sl1, sl2, sl3, i64_w, i32_w]
                  rfl
                refine pu_ 8 (some 60) (bz 13 511) HT_.out ?_
                refine pu_ 9 (some 69) (bz 13 1023) HT_.out ?_
                refine pu_ 10 (some 70) (bz 13 2047) HT_.out ?_
                refine pu_ 11 (some 10) (bz 13 4095) HT_.out ?_
                refine pu_ 12 (some 11) (bz 13 8191) HT_.out ?_
                refine done_ (done_of HT_.out (by kernel_rfl)) ?_
                clear HT_ HW_ hHeld HQd HFd HX HFr HFr2 HC f0_ f1_ f2_ f3_ f4_ hat0
                obtain ⟨f0_, f1_, f2_, f3_, f4_, _, _, _, _, _⟩ := bx5 HF4.out
                have HBz := Aside0.mk (below_step HB1.out HQ4.out.two.Bl)
                have HWQ : Aside0 (∀ a : Nat, _) := ⟨wait_q (HQ4.out.lk 0 (by decide)) HLW.out⟩
                have HWQ2 : Aside0 (∀ a : Nat, Calls Try.prog 12 #[.pointer (some ⟨B.g 0, 0, none⟩)] (w1.drewN a) fun e w' => e = .returned (.int .i64 (nw : Int)) ∧ ∃ m, w' = (w1.drewN a).drewN m) := ⟨HWQ.out⟩
                obtain ⟨x0, x1, x2, x3, _, _, _, _⟩ := bx4 HQ4.out.X
                have hat0 : w1.cell? ⟨B.gl, 0, none⟩ = some (.pointer (some ⟨B.g 0, 0, none⟩)) := HQ4.out.at_l 0 (by decide)
                clear HWQ
                go_wp2
                go_quiet (first | (go_at_call 12; with_reducible exact Calls.quiet_of (HWQ2.out _)) | fail)
                go_wp2
                go_ret
                exact ⟨rfl, pw_below_drewN HBz.out _⟩
      · have hd1 : decide ((i : Int) < (l0.length : Int)) = false := decide_eq_false (by omega)
        by_cases hf5 : 5 < F0
        · have hh5 : decide ((5 : Int) < F0) = true := decide_eq_true hf5
          go_wp2
          go_ret
          exact ⟨rfl, HBw.out⟩
        · have hh5 : decide ((5 : Int) < F0) = false := decide_eq_false hf5
          by_cases hf6 : F0 = 5
          · have hh6 : (F0 == 5) = true := beq_iff_eq.mpr hf6
            by_cases hf3 : F1 = 3
            · have hh3 : (F1 == 3) = true := beq_iff_eq.mpr hf3
              go_wp2
              go_ret
              exact ⟨rfl, HBw.out⟩
            · obtain ⟨x0, x1, x2, x3, _, _, _, _⟩ := bx4 HX.out.X
              rcases (HI.out.en 0 (by decide)).pr with hpe | hpe
              · subst hf6
                have hlep : (x.l 0).epoch = 3 := (HI.out.en 0 (by decide)).ep
                have hT := deaf (f := ⟨5, F1, F2, F3, F4⟩) hlep (HI.out.en 0 (by decide)).pr (by show ¬ (5 < 5 ∨ 5 = 5 ∧ F1 = 3); omega)
                have HPE : Aside0 (∀ W, PairIs W1 W B x → Calls Try.prog 25 #[.pointer (some ⟨B.g 0, 0, none⟩)] W fun e w' => e = .returned (.int .i64 0) ∧ w' = W) := ⟨fun W h => (peer_calls _ _ _ _ W (h.lk 0 (by decide))).mono fun e w' h => ⟨by rw [h.1, hpe], h.2⟩⟩
                obtain ⟨nw, hnw⟩ : ∃ nw, (x.l 0).wait.length = nw := ⟨_, rfl⟩
                have HWA : Aside0 (∀ W, PairIs W1 W B x → Calls Try.prog 12 #[.pointer (some ⟨B.g 0, 0, none⟩)] W fun e w' => e = .returned (.int .i64 (nw : Int)) ∧ w' = W) := ⟨fun W h => (waiting_calls _ _ _ _ W (h.lk 0 (by decide))).mono fun e w' h => ⟨by rw [h.1, hnw], h.2⟩⟩
                have hlok := HI.out.ok 0 (by decide)
                obtain ⟨l', hl'⟩ : ∃ l', ((x.l 0).take ⟨5, F1, F2, F3, F4⟩).1 = l' := ⟨_, rfl⟩
                obtain ⟨bs, hbs⟩ : ∃ bs, ((x.l 0).take ⟨5, F1, F2, F3, F4⟩).2.1 = bs := ⟨_, rfl⟩
                obtain ⟨nb, hnb⟩ : ∃ nb, bs.length = nb := ⟨_, rfl⟩
                have HT3 : Aside0 ((x.l 0).take ⟨5, F1, F2, F3, F4⟩ = (l', bs, false)) := ⟨by rw [← hl', ← hbs, ← hT.1]⟩
                have HC : Aside0 (∀ W, PairIs W1 W B x → Calls Try.prog 18 #[.pointer (some ⟨B.g 0, 0, none⟩), .agg #[.int .i64 5, .int .i64 F1, .int .i64 F2, .int .i64 F3, .string F4]] W (TakeP W W1.heap.size W.heap.size (B.g 0) (B.V 0) l' bs nb)) := ⟨fun W h => by
                  have h1 := take_calls _ _ _ _ ⟨5, F1, F2, F3, F4⟩ W (h.lk 0 (by decide)) hlok hF0.out
                  rw [HT3.out] at h1
                  rw [← hnb]
                  exact h1⟩
                have hT2 := hT.2 (by rw [hpe]; show ¬ (F1 = 3 ∧ (0 : Int) < 5); omega)
                obtain rfl : nb = 0 := by rw [← hnb, ← hbs, hT2.1]; rfl
                have hlw : l'.wait.length = nw := by rw [← hl', hT2.2, hnw]
                have HLW := Aside0.mk hlw
                clear hT2 hlw
                have hh3 : (F1 == 3) = false := beq_eq_false_iff_ne.mpr (by omega)
                have hhp : decide ((0 : Int) < 5) = true := decide_eq_true (by omega)
                have hat := HX.out.at_l 0 (by decide)
                have hat0 : wr.cell? ⟨B.gl, 0, none⟩ = some (.pointer (some ⟨B.g 0, 0, none⟩)) := hat
                clear hlep hT hnw hlok hl' hbs hnb hpe hat
                have HFr2 := HFr
                go_wp2_with (first | (go_at_call 12; refine (HWA.out _ HX.out).mono ?_) | (go_at_call 25; refine (HPE.out _ HX.out).mono ?_))
                rintro e W6 ⟨rfl, rfl⟩
                clear HWA HPE
                go_wp2
                have HQd := Aside0.mk HX.out.drew
                have HFd := Aside0.mk (blk_drew HFr2.out)
                refine start_ (n := 13) (S := fun W => W.heap[B.gx]? = some (.cells #[.slice (some ⟨B.gl, 0, none⟩) 2 2, .slice (some ⟨B.gw, 0, none⟩) 2 2, .slice (some ⟨B.gs, 0, none⟩) 2 2, .slice (some ⟨B.gt, 0, none⟩) 2 2] 35 (0, 0)) ∧ W.heap[B.gl]? = some (.cells #[.pointer (some ⟨B.g 0, 0, none⟩), .pointer (some ⟨B.g 1, 0, none⟩)] 37 (0, 0)) ∧ W.heap[bf]? = some (.cells #[.int .i64 5, .int .i64 F1, .int .i64 F2, .int .i64 F3, .string F4] 46 (0, 0))) (ds := []) (bz 13 0) (by kernel_rfl) rfl rfl ⟨HQd.out.X, HQd.out.L, HFd.out⟩ (fun hHeld => ?_); refine with_tabW deR.tab13 deR.bits13 (fun HT_ HW_ => ?_)
                generalize World.drew _ = W3 at hHeld HQd HFd ⊢
                refine pu_ 0 (some 61) (bz 13 1) HT_.out ?_
                refine pu_ 1 (some 62) (bz 13 3) HT_.out ?_
                refine pu_ 2 (some 63) (bz 13 7) HT_.out ?_
                refine take_ (i := 3) (N := (some 64)) (v := ?_) (a' := ?_) (bz 13 15) rfl rfl (take_ofW HT_.out HW_.out (by kernel_rfl)) (fun _ _ _ h => h) (Or.inl ⟨by rfl, ?_⟩) hHeld ?_ ?_
                rotate_left
                · rintro w' ⟨s0, s1, s2⟩
                  obtain ⟨x0, x1, x2, x3, _, _, _, _⟩ := bx4 s0
                  go_simp
                  with_reducible rfl
                rotate_left
                · simp only [Act.put, sl1, sl2, sl3, i64_w, i32_w]
                  rfl
                refine pu_ 4 (some 65) (bz 13 31) HT_.out ?_
                refine take_ (i := 5) (N := (some 66)) (v := ?_) (a' := ?_) (bz 13 63) rfl rfl (take_ofW HT_.out HW_.out (by kernel_rfl)) (fun _ _ _ h => h) (Or.inl ⟨by rfl, ?_⟩) hHeld ?_ ?_
                rotate_left
                · rintro w' ⟨s0, s1, s2⟩
                  have y0 : w'.cell? ⟨B.gl, 0, none⟩ = some (.pointer (some ⟨B.g 0, 0, none⟩)) := blk_cell s1 0
                  go_simp
                  with_reducible rfl
                rotate_left
                · simp only [Act.put, sl1, sl2, sl3, i64_w, i32_w]
                  rfl
                refine take_ (i := 6) (N := (some 67)) (v := ?_) (a' := ?_) (bz 13 127) rfl rfl (take_ofW HT_.out HW_.out (by kernel_rfl)) (fun _ _ _ h => h) (Or.inl ⟨by rfl, ?_⟩) hHeld ?_ ?_
                rotate_left
                · rintro w' ⟨s0, s1, s2⟩
                  obtain ⟨z0_, z1_, z2_, z3_, z4_, _, _, _, _, _⟩ := bx5 s2
                  go_simp
                  with_reducible rfl
                rotate_left
                · simp only [Act.put, sl1, sl2, sl3, i64_w, i32_w]
                  rfl
                refine one_ (i := 7) (N := (some 68)) (bz 13 255) rfl rfl (one_of HT_.out (by kernel_rfl)) (by decide) (fun K hK => ?_)
                refine goes_ Try.func18 (by kernel_rfl) rfl #[.pointer (some ⟨B.g 0, 0, none⟩), .agg #[.int .i64 5, .int .i64 F1, .int .i64 F2, .int .i64 F3, .string F4]] (by rfl) rfl rfl am ?_
                refine (HC.out _ HQd.out).mono ?_
                rintro e w1 ⟨Ab, cb, rfl, hR, V1, hA, hO⟩
                refine ⟨_, rfl, ?_⟩
                have HQ4 := Aside0.mk (HQd.out.deed 0 (by decide) hA hO)
                have HF4 := Aside0.mk (hO.box (HQd.out.lk 0 (by decide)) hHeld.2.2 (by decide) (by decide))
                clear hR hA hO
                refine hK.out _ _ ⟨HQ4.out.X, HQ4.out.L, HF4.out⟩ (fun hHeld => ?_)
                clear hK K
                refine norm_ (a' := ?_) ?_ ?_
                rotate_left
                · show Act.put _ (some 68) _ = _
                  simp only [Act.put, sl1, sl2, sl3, i64_w, i32_w]
                  rfl
                refine pu_ 8 (some 60) (bz 13 511) HT_.out ?_
                refine pu_ 9 (some 69) (bz 13 1023) HT_.out ?_
                refine pu_ 10 (some 70) (bz 13 2047) HT_.out ?_
                refine pu_ 11 (some 10) (bz 13 4095) HT_.out ?_
                refine pu_ 12 (some 11) (bz 13 8191) HT_.out ?_
                refine done_ (done_of HT_.out (by kernel_rfl)) ?_
                clear HT_ HW_ hHeld HQd HFd HX HFr HFr2 HC f0_ f1_ f2_ f3_ f4_ hat0
                obtain ⟨f0_, f1_, f2_, f3_, f4_, _, _, _, _, _⟩ := bx5 HF4.out
                have HBz := Aside0.mk (below_step HB1.out HQ4.out.two.Bl)
                have HWQ : Aside0 (∀ a : Nat, _) := ⟨wait_q (HQ4.out.lk 0 (by decide)) HLW.out⟩
                have HWQ2 : Aside0 (∀ a : Nat, Calls Try.prog 12 #[.pointer (some ⟨B.g 0, 0, none⟩)] (w1.drewN a) fun e w' => e = .returned (.int .i64 (nw : Int)) ∧ ∃ m, w' = (w1.drewN a).drewN m) := ⟨HWQ.out⟩
                obtain ⟨x0, x1, x2, x3, _, _, _, _⟩ := bx4 HQ4.out.X
                have hat0 : w1.cell? ⟨B.gl, 0, none⟩ = some (.pointer (some ⟨B.g 0, 0, none⟩)) := HQ4.out.at_l 0 (by decide)
                clear HWQ
                go_wp2
                go_quiet (first | (go_at_call 12; with_reducible exact Calls.quiet_of (HWQ2.out _)) | fail)
                go_wp2
                go_ret
                exact ⟨rfl, pw_below_drewN HBz.out _⟩
              · subst hf6
                replace hpe : (x.l 0).peer = 5 := hpe.trans (by decide)
                have hlep : (x.l 0).epoch = 3 := (HI.out.en 0 (by decide)).ep
                have hT := deaf (f := ⟨5, F1, F2, F3, F4⟩) hlep (HI.out.en 0 (by decide)).pr (by show ¬ (5 < 5 ∨ 5 = 5 ∧ F1 = 3); omega)
                have HPE : Aside0 (∀ W, PairIs W1 W B x → Calls Try.prog 25 #[.pointer (some ⟨B.g 0, 0, none⟩)] W fun e w' => e = .returned (.int .i64 5) ∧ w' = W) := ⟨fun W h => (peer_calls _ _ _ _ W (h.lk 0 (by decide))).mono fun e w' h => ⟨by rw [h.1, hpe], h.2⟩⟩
                obtain ⟨nw, hnw⟩ : ∃ nw, (x.l 0).wait.length = nw := ⟨_, rfl⟩
                have HWA : Aside0 (∀ W, PairIs W1 W B x → Calls Try.prog 12 #[.pointer (some ⟨B.g 0, 0, none⟩)] W fun e w' => e = .returned (.int .i64 (nw : Int)) ∧ w' = W) := ⟨fun W h => (waiting_calls _ _ _ _ W (h.lk 0 (by decide))).mono fun e w' h => ⟨by rw [h.1, hnw], h.2⟩⟩
                have hlok := HI.out.ok 0 (by decide)
                obtain ⟨l', hl'⟩ : ∃ l', ((x.l 0).take ⟨5, F1, F2, F3, F4⟩).1 = l' := ⟨_, rfl⟩
                obtain ⟨bs, hbs⟩ : ∃ bs, ((x.l 0).take ⟨5, F1, F2, F3, F4⟩).2.1 = bs := ⟨_, rfl⟩
                obtain ⟨nb, hnb⟩ : ∃ nb, bs.length = nb := ⟨_, rfl⟩
                have HT3 : Aside0 ((x.l 0).take ⟨5, F1, F2, F3, F4⟩ = (l', bs, false)) := ⟨by rw [← hl', ← hbs, ← hT.1]⟩
                have HC : Aside0 (∀ W, PairIs W1 W B x → Calls Try.prog 18 #[.pointer (some ⟨B.g 0, 0, none⟩), .agg #[.int .i64 5, .int .i64 F1, .int .i64 F2, .int .i64 F3, .string F4]] W (TakeP W W1.heap.size W.heap.size (B.g 0) (B.V 0) l' bs nb)) := ⟨fun W h => by
                  have h1 := take_calls _ _ _ _ ⟨5, F1, F2, F3, F4⟩ W (h.lk 0 (by decide)) hlok hF0.out
                  rw [HT3.out] at h1
                  rw [← hnb]
                  exact h1⟩
                have hT2 := hT.2 (by rw [hpe]; show ¬ (F1 = 3 ∧ (5 : Int) < 5); omega)
                obtain rfl : nb = 0 := by rw [← hnb, ← hbs, hT2.1]; rfl
                have hlw : l'.wait.length = nw := by rw [← hl', hT2.2, hnw]
                have HLW := Aside0.mk hlw
                clear hT2 hlw
                have hh3 : (F1 == 3) = false := beq_eq_false_iff_ne.mpr (by omega)
                have hhp : decide ((5 : Int) < 5) = false := decide_eq_false (by omega)
                have hat := HX.out.at_l 0 (by decide)
                have hat0 : wr.cell? ⟨B.gl, 0, none⟩ = some (.pointer (some ⟨B.g 0, 0, none⟩)) := hat
                clear hlep hT hnw hlok hl' hbs hnb hpe hat
                have HFr2 := HFr
                go_wp2_with (first | (go_at_call 12; refine (HWA.out _ HX.out).mono ?_) | (go_at_call 25; refine (HPE.out _ HX.out).mono ?_))
                rintro e W6 ⟨rfl, rfl⟩
                clear HWA HPE
                go_wp2
                have HQd := Aside0.mk HX.out.drew
                have HFd := Aside0.mk (blk_drew HFr2.out)
                refine start_ (n := 13) (S := fun W => W.heap[B.gx]? = some (.cells #[.slice (some ⟨B.gl, 0, none⟩) 2 2, .slice (some ⟨B.gw, 0, none⟩) 2 2, .slice (some ⟨B.gs, 0, none⟩) 2 2, .slice (some ⟨B.gt, 0, none⟩) 2 2] 35 (0, 0)) ∧ W.heap[B.gl]? = some (.cells #[.pointer (some ⟨B.g 0, 0, none⟩), .pointer (some ⟨B.g 1, 0, none⟩)] 37 (0, 0)) ∧ W.heap[bf]? = some (.cells #[.int .i64 5, .int .i64 F1, .int .i64 F2, .int .i64 F3, .string F4] 46 (0, 0))) (ds := []) (bz 13 0) (by kernel_rfl) rfl rfl ⟨HQd.out.X, HQd.out.L, HFd.out⟩ (fun hHeld => ?_); refine with_tabW deR.tab13 deR.bits13 (fun HT_ HW_ => ?_)
                generalize World.drew _ = W3 at hHeld HQd HFd ⊢
                refine pu_ 0 (some 61) (bz 13 1) HT_.out ?_
                refine pu_ 1 (some 62) (bz 13 3) HT_.out ?_
                refine pu_ 2 (some 63) (bz 13 7) HT_.out ?_
                refine take_ (i := 3) (N := (some 64)) (v := ?_) (a' := ?_) (bz 13 15) rfl rfl (take_ofW HT_.out HW_.out (by kernel_rfl)) (fun _ _ _ h => h) (Or.inl ⟨by rfl, ?_⟩) hHeld ?_ ?_
                rotate_left
                · rintro w' ⟨s0, s1, s2⟩
                  obtain ⟨x0, x1, x2, x3, _, _, _, _⟩ := bx4 s0
                  go_simp
                  with_reducible rfl
                rotate_left
                · simp only [Act.put, sl1, sl2, sl3, i64_w, i32_w]
                  rfl
                refine pu_ 4 (some 65) (bz 13 31) HT_.out ?_
                refine take_ (i := 5) (N := (some 66)) (v := ?_) (a' := ?_) (bz 13 63) rfl rfl (take_ofW HT_.out HW_.out (by kernel_rfl)) (fun _ _ _ h => h) (Or.inl ⟨by rfl, ?_⟩) hHeld ?_ ?_
                rotate_left
                · rintro w' ⟨s0, s1, s2⟩
                  have y0 : w'.cell? ⟨B.gl, 0, none⟩ = some (.pointer (some ⟨B.g 0, 0, none⟩)) := blk_cell s1 0
                  go_simp
                  with_reducible rfl
                rotate_left
                · simp only [Act.put, sl1, sl2, sl3, i64_w, i32_w]
                  rfl
                refine take_ (i := 6) (N := (some 67)) (v := ?_) (a' := ?_) (bz 13 127) rfl rfl (take_ofW HT_.out HW_.out (by kernel_rfl)) (fun _ _ _ h => h) (Or.inl ⟨by rfl, ?_⟩) hHeld ?_ ?_
                rotate_left
                · rintro w' ⟨s0, s1, s2⟩
                  obtain ⟨z0_, z1_, z2_, z3_, z4_, _, _, _, _, _⟩ := bx5 s2
                  go_simp
                  with_reducible rfl
                rotate_left
                · simp only [Act.put, sl1, sl2, sl3, i64_w, i32_w]
                  rfl
                refine one_ (i := 7) (N := (some 68)) (bz 13 255) rfl rfl (one_of HT_.out (by kernel_rfl)) (by decide) (fun K hK => ?_)
                refine goes_ Try.func18 (by kernel_rfl) rfl #[.pointer (some ⟨B.g 0, 0, none⟩), .agg #[.int .i64 5, .int .i64 F1, .int .i64 F2, .int .i64 F3, .string F4]] (by rfl) rfl rfl am ?_
                refine (HC.out _ HQd.out).mono ?_
                rintro e w1 ⟨Ab, cb, rfl, hR, V1, hA, hO⟩
                refine ⟨_, rfl, ?_⟩
                have HQ4 := Aside0.mk (HQd.out.deed 0 (by decide) hA hO)
                have HF4 := Aside0.mk (hO.box (HQd.out.lk 0 (by decide)) hHeld.2.2 (by decide) (by decide))
                clear hR hA hO
                refine hK.out _ _ ⟨HQ4.out.X, HQ4.out.L, HF4.out⟩ (fun hHeld => ?_)
                clear hK K
                refine norm_ (a' := ?_) ?_ ?_
                rotate_left
                · show Act.put _ (some 68) _ = _
                  simp only [Act.put, sl1, sl2, sl3, i64_w, i32_w]
                  rfl
                refine pu_ 8 (some 60) (bz 13 511) HT_.out ?_
                refine pu_ 9 (some 69) (bz 13 1023) HT_.out ?_
                refine pu_ 10 (some 70) (bz 13 2047) HT_.out ?_
                refine pu_ 11 (some 10) (bz 13 4095) HT_.out ?_
                refine pu_ 12 (some 11) (bz 13 8191) HT_.out ?_
                refine done_ (done_of HT_.out (by kernel_rfl)) ?_
                clear HT_ HW_ hHeld HQd HFd HX HFr HFr2 HC f0_ f1_ f2_ f3_ f4_ hat0
                obtain ⟨f0_, f1_, f2_, f3_, f4_, _, _, _, _, _⟩ := bx5 HF4.out
                have HBz := Aside0.mk (below_step HB1.out HQ4.out.two.Bl)
                have HWQ : Aside0 (∀ a : Nat, _) := ⟨wait_q (HQ4.out.lk 0 (by decide)) HLW.out⟩
                have HWQ2 : Aside0 (∀ a : Nat, Calls Try.prog 12 #[.pointer (some ⟨B.g 0, 0, none⟩)] (w1.drewN a) fun e w' => e = .returned (.int .i64 (nw : Int)) ∧ ∃ m, w' = (w1.drewN a).drewN m) := ⟨HWQ.out⟩
                obtain ⟨x0, x1, x2, x3, _, _, _, _⟩ := bx4 HQ4.out.X
                have hat0 : w1.cell? ⟨B.gl, 0, none⟩ = some (.pointer (some ⟨B.g 0, 0, none⟩)) := HQ4.out.at_l 0 (by decide)
                clear HWQ
                go_wp2
                go_quiet (first | (go_at_call 12; with_reducible exact Calls.quiet_of (HWQ2.out _)) | fail)
                go_wp2
                go_ret
                exact ⟨rfl, pw_below_drewN HBz.out _⟩
          · have hh6 : (F0 == 5) = false := beq_eq_false_iff_ne.mpr hf6
            obtain ⟨x0, x1, x2, x3, _, _, _, _⟩ := bx4 HX.out.X
            by_cases hf3 : F1 = 3
            · rcases (HI.out.en 0 (by decide)).pr with hpe | hpe
              · by_cases hf0 : 0 < F0
                · subst hf3
                  have hlep : (x.l 0).epoch = 3 := (HI.out.en 0 (by decide)).ep
                  have hT := deaf (f := ⟨F0, 3, F2, F3, F4⟩) hlep (HI.out.en 0 (by decide)).pr (by show ¬ (5 < F0 ∨ F0 = 5 ∧ 3 = 3); omega)
                  have HPE : Aside0 (∀ W, PairIs W1 W B x → Calls Try.prog 25 #[.pointer (some ⟨B.g 0, 0, none⟩)] W fun e w' => e = .returned (.int .i64 0) ∧ w' = W) := ⟨fun W h => (peer_calls _ _ _ _ W (h.lk 0 (by decide))).mono fun e w' h => ⟨by rw [h.1, hpe], h.2⟩⟩
                  obtain ⟨nw, hnw⟩ : ∃ nw, (x.l 0).wait.length = nw := ⟨_, rfl⟩
                  have HWA : Aside0 (∀ W, PairIs W1 W B x → Calls Try.prog 12 #[.pointer (some ⟨B.g 0, 0, none⟩)] W fun e w' => e = .returned (.int .i64 (nw : Int)) ∧ w' = W) := ⟨fun W h => (waiting_calls _ _ _ _ W (h.lk 0 (by decide))).mono fun e w' h => ⟨by rw [h.1, hnw], h.2⟩⟩
                  have hlok := HI.out.ok 0 (by decide)
                  obtain ⟨l', hl'⟩ : ∃ l', ((x.l 0).take ⟨F0, 3, F2, F3, F4⟩).1 = l' := ⟨_, rfl⟩
                  obtain ⟨bs, hbs⟩ : ∃ bs, ((x.l 0).take ⟨F0, 3, F2, F3, F4⟩).2.1 = bs := ⟨_, rfl⟩
                  obtain ⟨nb, hnb⟩ : ∃ nb, bs.length = nb := ⟨_, rfl⟩
                  have HT3 : Aside0 ((x.l 0).take ⟨F0, 3, F2, F3, F4⟩ = (l', bs, false)) := ⟨by rw [← hl', ← hbs, ← hT.1]⟩
                  have HC : Aside0 (∀ W, PairIs W1 W B x → Calls Try.prog 18 #[.pointer (some ⟨B.g 0, 0, none⟩), .agg #[.int .i64 F0, .int .i64 3, .int .i64 F2, .int .i64 F3, .string F4]] W (TakeP W W1.heap.size W.heap.size (B.g 0) (B.V 0) l' bs nb)) := ⟨fun W h => by
                    have h1 := take_calls _ _ _ _ ⟨F0, 3, F2, F3, F4⟩ W (h.lk 0 (by decide)) hlok hF0.out
                    rw [HT3.out] at h1
                    rw [← hnb]
                    exact h1⟩
                  have hhp : decide ((0 : Int) < F0) = true := decide_eq_true (by omega)
                  have hat := HX.out.at_l 0 (by decide)
                  have hat0 : wr.cell? ⟨B.gl, 0, none⟩ = some (.pointer (some ⟨B.g 0, 0, none⟩)) := hat
                  clear hlep hT hnw hlok hl' hbs hnb hpe hat
                  have HFr2 := HFr
                  go_wp2_with (first | (go_at_call 12; refine (HWA.out _ HX.out).mono ?_) | (go_at_call 25; refine (HPE.out _ HX.out).mono ?_))
                  rintro e W6 ⟨rfl, rfl⟩
                  clear HWA HPE
                  go_wp2
                  have HQd := Aside0.mk HX.out.drew
                  have HFd := Aside0.mk (blk_drew HFr2.out)
                  refine start_ (n := 13) (S := fun W => W.heap[B.gx]? = some (.cells #[.slice (some ⟨B.gl, 0, none⟩) 2 2, .slice (some ⟨B.gw, 0, none⟩) 2 2, .slice (some ⟨B.gs, 0, none⟩) 2 2, .slice (some ⟨B.gt, 0, none⟩) 2 2] 35 (0, 0)) ∧ W.heap[B.gl]? = some (.cells #[.pointer (some ⟨B.g 0, 0, none⟩), .pointer (some ⟨B.g 1, 0, none⟩)] 37 (0, 0)) ∧ W.heap[bf]? = some (.cells #[.int .i64 F0, .int .i64 3, .int .i64 F2, .int .i64 F3, .string F4] 46 (0, 0))) (ds := []) (bz 13 0) (by kernel_rfl) rfl rfl ⟨HQd.out.X, HQd.out.L, HFd.out⟩ (fun hHeld => ?_); refine with_tabW deR.tab13 deR.bits13 (fun HT_ HW_ => ?_)
                  generalize World.drew _ = W3 at hHeld HQd HFd ⊢
                  refine pu_ 0 (some 61) (bz 13 1) HT_.out ?_
                  refine pu_ 1 (some 62) (bz 13 3) HT_.out ?_
                  refine pu_ 2 (some 63) (bz 13 7) HT_.out ?_
                  refine take_ (i := 3) (N := (some 64)) (v := ?_) (a' := ?_) (bz 13 15) rfl rfl (take_ofW HT_.out HW_.out (by kernel_rfl)) (fun _ _ _ h => h) (Or.inl ⟨by rfl, ?_⟩) hHeld ?_ ?_
                  rotate_left
                  · rintro w' ⟨s0, s1, s2⟩
                    obtain ⟨x0, x1, x2, x3, _, _, _, _⟩ := bx4 s0
                    go_simp
                    with_reducible rfl
                  rotate_left
                  · simp only [Act.put, sl1, sl2, sl3, i64_w, i32_w]
                    rfl
                  refine pu_ 4 (some 65) (bz 13 31) HT_.out ?_
                  refine take_ (i := 5) (N := (some 66)) (v := ?_) (a' := ?_) (bz 13 63) rfl rfl (take_ofW HT_.out HW_.out (by kernel_rfl)) (fun _ _ _ h => h) (Or.inl ⟨by rfl, ?_⟩) hHeld ?_ ?_
                  rotate_left
                  · rintro w' ⟨s0, s1, s2⟩
                    have y0 : w'.cell? ⟨B.gl, 0, none⟩ = some (.pointer (some ⟨B.g 0, 0, none⟩)) := blk_cell s1 0
                    go_simp
                    with_reducible rfl
                  rotate_left
                  · simp only [Act.put, sl1, sl2, sl3, i64_w, i32_w]
                    rfl
                  refine take_ (i := 6) (N := (some 67)) (v := ?_) (a' := ?_) (bz 13 127) rfl rfl (take_ofW HT_.out HW_.out (by kernel_rfl)) (fun _ _ _ h => h) (Or.inl ⟨by rfl, ?_⟩) hHeld ?_ ?_
                  rotate_left
                  · rintro w' ⟨s0, s1, s2⟩
                    obtain ⟨z0_, z1_, z2_, z3_, z4_, _, _, _, _, _⟩ := bx5 s2
                    go_simp
                    with_reducible rfl
                  rotate_left
                  · simp only [Act.put, sl1, sl2, sl3, i64_w, i32_w]
                    rfl
                  refine one_ (i := 7) (N := (some 68)) (bz 13 255) rfl rfl (one_of HT_.out (by kernel_rfl)) (by decide) (fun K hK => ?_)
                  refine goes_ Try.func18 (by kernel_rfl) rfl #[.pointer (some ⟨B.g 0, 0, none⟩), .agg #[.int .i64 F0, .int .i64 3, .int .i64 F2, .int .i64 F3, .string F4]] (by rfl) rfl rfl am ?_
                  refine (HC.out _ HQd.out).mono ?_
                  rintro e w1 ⟨Ab, cb, rfl, hR, V1, hA, hO⟩
                  refine ⟨_, rfl, ?_⟩
                  have HQ4 := Aside0.mk (HQd.out.deed 0 (by decide) hA hO)
                  have HF4 := Aside0.mk (hO.box (HQd.out.lk 0 (by decide)) hHeld.2.2 (by decide) (by decide))
                  clear hR hA hO
                  refine hK.out _ _ ⟨HQ4.out.X, HQ4.out.L, HF4.out⟩ (fun hHeld => ?_)
                  clear hK K
                  refine norm_ (a' := ?_) ?_ ?_
                  rotate_left
                  · show Act.put _ (some 68) _ = _
                    simp only [Act.put, sl1, sl2, sl3, i64_w, i32_w]
                    rfl
                  refine pu_ 8 (some 60) (bz 13 511) HT_.out ?_
                  refine pu_ 9 (some 69) (bz 13 1023) HT_.out ?_
                  refine pu_ 10 (some 70) (bz 13 2047) HT_.out ?_
                  refine pu_ 11 (some 10) (bz 13 4095) HT_.out ?_
                  refine pu_ 12 (some 11) (bz 13 8191) HT_.out ?_
                  refine done_ (done_of HT_.out (by kernel_rfl)) ?_
                  clear HT_ HW_ hHeld HQd HFd HX HFr HFr2 HC f0_ f1_ f2_ f3_ f4_ hat0
                  obtain ⟨f0_, f1_, f2_, f3_, f4_, _, _, _, _, _⟩ := bx5 HF4.out
                  have HBz := Aside0.mk (below_step HB1.out HQ4.out.two.Bl)
                  go_wp2
                  go_ret
                  exact ⟨rfl, HBz.out⟩
                · subst hf3
                  have hlep : (x.l 0).epoch = 3 := (HI.out.en 0 (by decide)).ep
                  have hT := deaf (f := ⟨F0, 3, F2, F3, F4⟩) hlep (HI.out.en 0 (by decide)).pr (by show ¬ (5 < F0 ∨ F0 = 5 ∧ 3 = 3); omega)
                  have HPE : Aside0 (∀ W, PairIs W1 W B x → Calls Try.prog 25 #[.pointer (some ⟨B.g 0, 0, none⟩)] W fun e w' => e = .returned (.int .i64 0) ∧ w' = W) := ⟨fun W h => (peer_calls _ _ _ _ W (h.lk 0 (by decide))).mono fun e w' h => ⟨by rw [h.1, hpe], h.2⟩⟩
                  obtain ⟨nw, hnw⟩ : ∃ nw, (x.l 0).wait.length = nw := ⟨_, rfl⟩
                  have HWA : Aside0 (∀ W, PairIs W1 W B x → Calls Try.prog 12 #[.pointer (some ⟨B.g 0, 0, none⟩)] W fun e w' => e = .returned (.int .i64 (nw : Int)) ∧ w' = W) := ⟨fun W h => (waiting_calls _ _ _ _ W (h.lk 0 (by decide))).mono fun e w' h => ⟨by rw [h.1, hnw], h.2⟩⟩
                  have hlok := HI.out.ok 0 (by decide)
                  obtain ⟨l', hl'⟩ : ∃ l', ((x.l 0).take ⟨F0, 3, F2, F3, F4⟩).1 = l' := ⟨_, rfl⟩
                  obtain ⟨bs, hbs⟩ : ∃ bs, ((x.l 0).take ⟨F0, 3, F2, F3, F4⟩).2.1 = bs := ⟨_, rfl⟩
                  obtain ⟨nb, hnb⟩ : ∃ nb, bs.length = nb := ⟨_, rfl⟩
                  have HT3 : Aside0 ((x.l 0).take ⟨F0, 3, F2, F3, F4⟩ = (l', bs, false)) := ⟨by rw [← hl', ← hbs, ← hT.1]⟩
                  have HC : Aside0 (∀ W, PairIs W1 W B x → Calls Try.prog 18 #[.pointer (some ⟨B.g 0, 0, none⟩), .agg #[.int .i64 F0, .int .i64 3, .int .i64 F2, .int .i64 F3, .string F4]] W (TakeP W W1.heap.size W.heap.size (B.g 0) (B.V 0) l' bs nb)) := ⟨fun W h => by
                    have h1 := take_calls _ _ _ _ ⟨F0, 3, F2, F3, F4⟩ W (h.lk 0 (by decide)) hlok hF0.out
                    rw [HT3.out] at h1
                    rw [← hnb]
                    exact h1⟩
                  have hT2 := hT.2 (by rw [hpe]; show ¬ (3 = 3 ∧ (0 : Int) < F0); omega)
                  obtain rfl : nb = 0 := by rw [← hnb, ← hbs, hT2.1]; rfl
                  have hlw : l'.wait.length = nw := by rw [← hl', hT2.2, hnw]
                  have HLW := Aside0.mk hlw
                  clear hT2 hlw
                  have hhp : decide ((0 : Int) < F0) = false := decide_eq_false (by omega)
                  have hat := HX.out.at_l 0 (by decide)
                  have hat0 : wr.cell? ⟨B.gl, 0, none⟩ = some (.pointer (some ⟨B.g 0, 0, none⟩)) := hat
                  clear hlep hT hnw hlok hl' hbs hnb hpe hat
                  have HFr2 := HFr
                  go_wp2_with (first | (go_at_call 12; refine (HWA.out _ HX.out).mono ?_) | (go_at_call 25; refine (HPE.out _ HX.out).mono ?_))
                  rintro e W6 ⟨rfl, rfl⟩
                  clear HWA HPE
                  go_wp2
                  have HQd := Aside0.mk HX.out.drew
                  have HFd := Aside0.mk (blk_drew HFr2.out)
                  refine start_ (n := 13) (S := fun W => W.heap[B.gx]? = some (.cells #[.slice (some ⟨B.gl, 0, none⟩) 2 2, .slice (some ⟨B.gw, 0, none⟩) 2 2, .slice (some ⟨B.gs, 0, none⟩) 2 2, .slice (some ⟨B.gt, 0, none⟩) 2 2] 35 (0, 0)) ∧ W.heap[B.gl]? = some (.cells #[.pointer (some ⟨B.g 0, 0, none⟩), .pointer (some ⟨B.g 1, 0, none⟩)] 37 (0, 0)) ∧ W.heap[bf]? = some (.cells #[.int .i64 F0, .int .i64 3, .int .i64 F2, .int .i64 F3, .string F4] 46 (0, 0))) (ds := []) (bz 13 0) (by kernel_rfl) rfl rfl ⟨HQd.out.X, HQd.out.L, HFd.out⟩ (fun hHeld => ?_); refine with_tabW deR.tab13 deR.bits13 (fun HT_ HW_ => ?_)
                  generalize World.drew _ = W3 at hHeld HQd HFd ⊢
                  refine pu_ 0 (some 61) (bz 13 1) HT_.out ?_
                  refine pu_ 1 (some 62) (bz 13 3) HT_.out ?_
                  refine pu_ 2 (some 63) (bz 13 7) HT_.out ?_
                  refine take_ (i := 3) (N := (some 64)) (v := ?_) (a' := ?_) (bz 13 15) rfl rfl (take_ofW HT_.out HW_.out (by kernel_rfl)) (fun _ _ _ h => h) (Or.inl ⟨by rfl, ?_⟩) hHeld ?_ ?_
                  rotate_left
                  · rintro w' ⟨s0, s1, s2⟩
                    obtain ⟨x0, x1, x2, x3, _, _, _, _⟩ := bx4 s0
                    go_simp
                    with_reducible rfl
                  rotate_left
                  · simp only [Act.put, sl1, sl2, sl3, i64_w, i32_w]
                    rfl
                  refine pu_ 4 (some 65) (bz 13 31) HT_.out ?_
                  refine take_ (i := 5) (N := (some 66)) (v := ?_) (a' := ?_) (bz 13 63) rfl rfl (take_ofW HT_.out HW_.out (by kernel_rfl)) (fun _ _ _ h => h) (Or.inl ⟨by rfl, ?_⟩) hHeld ?_ ?_
                  rotate_left
                  · rintro w' ⟨s0, s1, s2⟩
                    have y0 : w'.cell? ⟨B.gl, 0, none⟩ = some (.pointer (some ⟨B.g 0, 0, none⟩)) := blk_cell s1 0
                    go_simp
                    with_reducible rfl
                  rotate_left
                  · simp only [Act.put, sl1, sl2, sl3, i64_w, i32_w]
                    rfl
                  refine take_ (i := 6) (N := (some 67)) (v := ?_) (a' := ?_) (bz 13 127) rfl rfl (take_ofW HT_.out HW_.out (by kernel_rfl)) (fun _ _ _ h => h) (Or.inl ⟨by rfl, ?_⟩) hHeld ?_ ?_
                  rotate_left
                  · rintro w' ⟨s0, s1, s2⟩
                    obtain ⟨z0_, z1_, z2_, z3_, z4_, _, _, _, _, _⟩ := bx5 s2
                    go_simp
                    with_reducible rfl
                  rotate_left
                  · simp only [Act.put, sl1, sl2, sl3, i64_w, i32_w]
                    rfl
                  refine one_ (i := 7) (N := (some 68)) (bz 13 255) rfl rfl (one_of HT_.out (by kernel_rfl)) (by decide) (fun K hK => ?_)
                  refine goes_ Try.func18 (by kernel_rfl) rfl #[.pointer (some ⟨B.g 0, 0, none⟩), .agg #[.int .i64 F0, .int .i64 3, .int .i64 F2, .int .i64 F3, .string F4]] (by rfl) rfl rfl am ?_
                  refine (HC.out _ HQd.out).mono ?_
                  rintro e w1 ⟨Ab, cb, rfl, hR, V1, hA, hO⟩
                  refine ⟨_, rfl, ?_⟩
                  have HQ4 := Aside0.mk (HQd.out.deed 0 (by decide) hA hO)
                  have HF4 := Aside0.mk (hO.box (HQd.out.lk 0 (by decide)) hHeld.2.2 (by decide) (by decide))
                  clear hR hA hO
                  refine hK.out _ _ ⟨HQ4.out.X, HQ4.out.L, HF4.out⟩ (fun hHeld => ?_)
                  clear hK K
                  refine norm_ (a' := ?_) ?_ ?_
                  rotate_left
                  · show Act.put _ (some 68) _ = _
                    simp only [Act.put, sl1, sl2, sl3, i64_w, i32_w]
                    rfl
                  refine pu_ 8 (some 60) (bz 13 511) HT_.out ?_
                  refine pu_ 9 (some 69) (bz 13 1023) HT_.out ?_
                  refine pu_ 10 (some 70) (bz 13 2047) HT_.out ?_
                  refine pu_ 11 (some 10) (bz 13 4095) HT_.out ?_
                  refine pu_ 12 (some 11) (bz 13 8191) HT_.out ?_
                  refine done_ (done_of HT_.out (by kernel_rfl)) ?_
                  clear HT_ HW_ hHeld HQd HFd HX HFr HFr2 HC f0_ f1_ f2_ f3_ f4_ hat0
                  obtain ⟨f0_, f1_, f2_, f3_, f4_, _, _, _, _, _⟩ := bx5 HF4.out
                  have HBz := Aside0.mk (below_step HB1.out HQ4.out.two.Bl)
                  have HWQ : Aside0 (∀ a : Nat, _) := ⟨wait_q (HQ4.out.lk 0 (by decide)) HLW.out⟩
                  have HWQ2 : Aside0 (∀ a : Nat, Calls Try.prog 12 #[.pointer (some ⟨B.g 0, 0, none⟩)] (w1.drewN a) fun e w' => e = .returned (.int .i64 (nw : Int)) ∧ ∃ m, w' = (w1.drewN a).drewN m) := ⟨HWQ.out⟩
                  obtain ⟨x0, x1, x2, x3, _, _, _, _⟩ := bx4 HQ4.out.X
                  have hat0 : w1.cell? ⟨B.gl, 0, none⟩ = some (.pointer (some ⟨B.g 0, 0, none⟩)) := HQ4.out.at_l 0 (by decide)
                  clear HWQ
                  go_wp2
                  go_quiet (first | (go_at_call 12; with_reducible exact Calls.quiet_of (HWQ2.out _)) | fail)
                  go_wp2
                  go_ret
                  exact ⟨rfl, pw_below_drewN HBz.out _⟩
              · subst hf3
                replace hpe : (x.l 0).peer = 5 := hpe.trans (by decide)
                have hlep : (x.l 0).epoch = 3 := (HI.out.en 0 (by decide)).ep
                have hT := deaf (f := ⟨F0, 3, F2, F3, F4⟩) hlep (HI.out.en 0 (by decide)).pr (by show ¬ (5 < F0 ∨ F0 = 5 ∧ 3 = 3); omega)
                have HPE : Aside0 (∀ W, PairIs W1 W B x → Calls Try.prog 25 #[.pointer (some ⟨B.g 0, 0, none⟩)] W fun e w' => e = .returned (.int .i64 5) ∧ w' = W) := ⟨fun W h => (peer_calls _ _ _ _ W (h.lk 0 (by decide))).mono fun e w' h => ⟨by rw [h.1, hpe], h.2⟩⟩
                obtain ⟨nw, hnw⟩ : ∃ nw, (x.l 0).wait.length = nw := ⟨_, rfl⟩
                have HWA : Aside0 (∀ W, PairIs W1 W B x → Calls Try.prog 12 #[.pointer (some ⟨B.g 0, 0, none⟩)] W fun e w' => e = .returned (.int .i64 (nw : Int)) ∧ w' = W) := ⟨fun W h => (waiting_calls _ _ _ _ W (h.lk 0 (by decide))).mono fun e w' h => ⟨by rw [h.1, hnw], h.2⟩⟩
                have hlok := HI.out.ok 0 (by decide)
                obtain ⟨l', hl'⟩ : ∃ l', ((x.l 0).take ⟨F0, 3, F2, F3, F4⟩).1 = l' := ⟨_, rfl⟩
                obtain ⟨bs, hbs⟩ : ∃ bs, ((x.l 0).take ⟨F0, 3, F2, F3, F4⟩).2.1 = bs := ⟨_, rfl⟩
                obtain ⟨nb, hnb⟩ : ∃ nb, bs.length = nb := ⟨_, rfl⟩
                have HT3 : Aside0 ((x.l 0).take ⟨F0, 3, F2, F3, F4⟩ = (l', bs, false)) := ⟨by rw [← hl', ← hbs, ← hT.1]⟩
                have HC : Aside0 (∀ W, PairIs W1 W B x → Calls Try.prog 18 #[.pointer (some ⟨B.g 0, 0, none⟩), .agg #[.int .i64 F0, .int .i64 3, .int .i64 F2, .int .i64 F3, .string F4]] W (TakeP W W1.heap.size W.heap.size (B.g 0) (B.V 0) l' bs nb)) := ⟨fun W h => by
                  have h1 := take_calls _ _ _ _ ⟨F0, 3, F2, F3, F4⟩ W (h.lk 0 (by decide)) hlok hF0.out
                  rw [HT3.out] at h1
                  rw [← hnb]
                  exact h1⟩
                have hT2 := hT.2 (by rw [hpe]; show ¬ (3 = 3 ∧ (5 : Int) < F0); omega)
                obtain rfl : nb = 0 := by rw [← hnb, ← hbs, hT2.1]; rfl
                have hlw : l'.wait.length = nw := by rw [← hl', hT2.2, hnw]
                have HLW := Aside0.mk hlw
                clear hT2 hlw
                have hhp : decide ((5 : Int) < F0) = false := decide_eq_false (by omega)
                have hat := HX.out.at_l 0 (by decide)
                have hat0 : wr.cell? ⟨B.gl, 0, none⟩ = some (.pointer (some ⟨B.g 0, 0, none⟩)) := hat
                clear hlep hT hnw hlok hl' hbs hnb hpe hat
                have HFr2 := HFr
                go_wp2_with (first | (go_at_call 12; refine (HWA.out _ HX.out).mono ?_) | (go_at_call 25; refine (HPE.out _ HX.out).mono ?_))
                rintro e W6 ⟨rfl, rfl⟩
                clear HWA HPE
                go_wp2
                have HQd := Aside0.mk HX.out.drew
                have HFd := Aside0.mk (blk_drew HFr2.out)
                refine start_ (n := 13) (S := fun W => W.heap[B.gx]? = some (.cells #[.slice (some ⟨B.gl, 0, none⟩) 2 2, .slice (some ⟨B.gw, 0, none⟩) 2 2, .slice (some ⟨B.gs, 0, none⟩) 2 2, .slice (some ⟨B.gt, 0, none⟩) 2 2] 35 (0, 0)) ∧ W.heap[B.gl]? = some (.cells #[.pointer (some ⟨B.g 0, 0, none⟩), .pointer (some ⟨B.g 1, 0, none⟩)] 37 (0, 0)) ∧ W.heap[bf]? = some (.cells #[.int .i64 F0, .int .i64 3, .int .i64 F2, .int .i64 F3, .string F4] 46 (0, 0))) (ds := []) (bz 13 0) (by kernel_rfl) rfl rfl ⟨HQd.out.X, HQd.out.L, HFd.out⟩ (fun hHeld => ?_); refine with_tabW deR.tab13 deR.bits13 (fun HT_ HW_ => ?_)
                generalize World.drew _ = W3 at hHeld HQd HFd ⊢
                refine pu_ 0 (some 61) (bz 13 1) HT_.out ?_
                refine pu_ 1 (some 62) (bz 13 3) HT_.out ?_
                refine pu_ 2 (some 63) (bz 13 7) HT_.out ?_
                refine take_ (i := 3) (N := (some 64)) (v := ?_) (a' := ?_) (bz 13 15) rfl rfl (take_ofW HT_.out HW_.out (by kernel_rfl)) (fun _ _ _ h => h) (Or.inl ⟨by rfl, ?_⟩) hHeld ?_ ?_
                rotate_left
                · rintro w' ⟨s0, s1, s2⟩
                  obtain ⟨x0, x1, x2, x3, _, _, _, _⟩ := bx4 s0
                  go_simp
                  with_reducible rfl
                rotate_left
                · simp only [Act.put, sl1, sl2, sl3, i64_w, i32_w]
                  rfl
                refine pu_ 4 (some 65) (bz 13 31) HT_.out ?_
                refine take_ (i := 5) (N := (some 66)) (v := ?_) (a' := ?_) (bz 13 63) rfl rfl (take_ofW HT_.out HW_.out (by kernel_rfl)) (fun _ _ _ h => h) (Or.inl ⟨by rfl, ?_⟩) hHeld ?_ ?_
                rotate_left
                · rintro w' ⟨s0, s1, s2⟩
                  have y0 : w'.cell? ⟨B.gl, 0, none⟩ = some (.pointer (some ⟨B.g 0, 0, none⟩)) := blk_cell s1 0
                  go_simp
                  with_reducible rfl
                rotate_left
                · simp only [Act.put, sl1, sl2, sl3, i64_w, i32_w]
                  rfl
                refine take_ (i := 6) (N := (some 67)) (v := ?_) (a' := ?_) (bz 13 127) rfl rfl (take_ofW HT_.out HW_.out (by kernel_rfl)) (fun _ _ _ h => h) (Or.inl ⟨by rfl, ?_⟩) hHeld ?_ ?_
                rotate_left
                · rintro w' ⟨s0, s1, s2⟩
                  obtain ⟨z0_, z1_, z2_, z3_, z4_, _, _, _, _, _⟩ := bx5 s2
                  go_simp
                  with_reducible rfl
                rotate_left
                · simp only [Act.put, sl1, sl2, sl3, i64_w, i32_w]
                  rfl
                refine one_ (i := 7) (N := (some 68)) (bz 13 255) rfl rfl (one_of HT_.out (by kernel_rfl)) (by decide) (fun K hK => ?_)
                refine goes_ Try.func18 (by kernel_rfl) rfl #[.pointer (some ⟨B.g 0, 0, none⟩), .agg #[.int .i64 F0, .int .i64 3, .int .i64 F2, .int .i64 F3, .string F4]] (by rfl) rfl rfl am ?_
                refine (HC.out _ HQd.out).mono ?_
                rintro e w1 ⟨Ab, cb, rfl, hR, V1, hA, hO⟩
                refine ⟨_, rfl, ?_⟩
                have HQ4 := Aside0.mk (HQd.out.deed 0 (by decide) hA hO)
                have HF4 := Aside0.mk (hO.box (HQd.out.lk 0 (by decide)) hHeld.2.2 (by decide) (by decide))
                clear hR hA hO
                refine hK.out _ _ ⟨HQ4.out.X, HQ4.out.L, HF4.out⟩ (fun hHeld => ?_)
                clear hK K
                refine norm_ (a' := ?_) ?_ ?_
                rotate_left
                · show Act.put _ (some 68) _ = _
                  simp only [Act.put, sl1, sl2, sl3, i64_w, i32_w]
                  rfl
                refine pu_ 8 (some 60) (bz 13 511) HT_.out ?_
                refine pu_ 9 (some 69) (bz 13 1023) HT_.out ?_
                refine pu_ 10 (some 70) (bz 13 2047) HT_.out ?_
                refine pu_ 11 (some 10) (bz 13 4095) HT_.out ?_
                refine pu_ 12 (some 11) (bz 13 8191) HT_.out ?_
                refine done_ (done_of HT_.out (by kernel_rfl)) ?_
                clear HT_ HW_ hHeld HQd HFd HX HFr HFr2 HC f0_ f1_ f2_ f3_ f4_ hat0
                obtain ⟨f0_, f1_, f2_, f3_, f4_, _, _, _, _, _⟩ := bx5 HF4.out
                have HBz := Aside0.mk (below_step HB1.out HQ4.out.two.Bl)
                have HWQ : Aside0 (∀ a : Nat, _) := ⟨wait_q (HQ4.out.lk 0 (by decide)) HLW.out⟩
                have HWQ2 : Aside0 (∀ a : Nat, Calls Try.prog 12 #[.pointer (some ⟨B.g 0, 0, none⟩)] (w1.drewN a) fun e w' => e = .returned (.int .i64 (nw : Int)) ∧ ∃ m, w' = (w1.drewN a).drewN m) := ⟨HWQ.out⟩
                obtain ⟨x0, x1, x2, x3, _, _, _, _⟩ := bx4 HQ4.out.X
                have hat0 : w1.cell? ⟨B.gl, 0, none⟩ = some (.pointer (some ⟨B.g 0, 0, none⟩)) := HQ4.out.at_l 0 (by decide)
                clear HWQ
                go_wp2
                go_quiet (first | (go_at_call 12; with_reducible exact Calls.quiet_of (HWQ2.out _)) | fail)
                go_wp2
                go_ret
                exact ⟨rfl, pw_below_drewN HBz.out _⟩
            · rcases (HI.out.en 0 (by decide)).pr with hpe | hpe
              · by_cases hf0 : 0 < F0
                · have hlep : (x.l 0).epoch = 3 := (HI.out.en 0 (by decide)).ep
                  have hT := deaf (f := ⟨F0, F1, F2, F3, F4⟩) hlep (HI.out.en 0 (by decide)).pr (by show ¬ (5 < F0 ∨ F0 = 5 ∧ F1 = 3); omega)
                  have HPE : Aside0 (∀ W, PairIs W1 W B x → Calls Try.prog 25 #[.pointer (some ⟨B.g 0, 0, none⟩)] W fun e w' => e = .returned (.int .i64 0) ∧ w' = W) := ⟨fun W h => (peer_calls _ _ _ _ W (h.lk 0 (by decide))).mono fun e w' h => ⟨by rw [h.1, hpe], h.2⟩⟩
                  obtain ⟨nw, hnw⟩ : ∃ nw, (x.l 0).wait.length = nw := ⟨_, rfl⟩
                  have HWA : Aside0 (∀ W, PairIs W1 W B x → Calls Try.prog 12 #[.pointer (some ⟨B.g 0, 0, none⟩)] W fun e w' => e = .returned (.int .i64 (nw : Int)) ∧ w' = W) := ⟨fun W h => (waiting_calls _ _ _ _ W (h.lk 0 (by decide))).mono fun e w' h => ⟨by rw [h.1, hnw], h.2⟩⟩
                  have hlok := HI.out.ok 0 (by decide)
                  obtain ⟨l', hl'⟩ : ∃ l', ((x.l 0).take ⟨F0, F1, F2, F3, F4⟩).1 = l' := ⟨_, rfl⟩
                  obtain ⟨bs, hbs⟩ : ∃ bs, ((x.l 0).take ⟨F0, F1, F2, F3, F4⟩).2.1 = bs := ⟨_, rfl⟩
                  obtain ⟨nb, hnb⟩ : ∃ nb, bs.length = nb := ⟨_, rfl⟩
                  have HT3 : Aside0 ((x.l 0).take ⟨F0, F1, F2, F3, F4⟩ = (l', bs, false)) := ⟨by rw [← hl', ← hbs, ← hT.1]⟩
                  have HC : Aside0 (∀ W, PairIs W1 W B x → Calls Try.prog 18 #[.pointer (some ⟨B.g 0, 0, none⟩), .agg #[.int .i64 F0, .int .i64 F1, .int .i64 F2, .int .i64 F3, .string F4]] W (TakeP W W1.heap.size W.heap.size (B.g 0) (B.V 0) l' bs nb)) := ⟨fun W h => by
                    have h1 := take_calls _ _ _ _ ⟨F0, F1, F2, F3, F4⟩ W (h.lk 0 (by decide)) hlok hF0.out
                    rw [HT3.out] at h1
                    rw [← hnb]
                    exact h1⟩
                  have hT2 := hT.2 (by rw [hpe]; show ¬ (F1 = 3 ∧ (0 : Int) < F0); omega)
                  obtain rfl : nb = 0 := by rw [← hnb, ← hbs, hT2.1]; rfl
                  have hlw : l'.wait.length = nw := by rw [← hl', hT2.2, hnw]
                  have HLW := Aside0.mk hlw
                  clear hT2 hlw
                  have hh3 : (F1 == 3) = false := beq_eq_false_iff_ne.mpr (by omega)
                  have hhp : decide ((0 : Int) < F0) = true := decide_eq_true (by omega)
                  have hat := HX.out.at_l 0 (by decide)
                  have hat0 : wr.cell? ⟨B.gl, 0, none⟩ = some (.pointer (some ⟨B.g 0, 0, none⟩)) := hat
                  clear hlep hT hnw hlok hl' hbs hnb hpe hat
                  have HFr2 := HFr
                  go_wp2_with (first | (go_at_call 12; refine (HWA.out _ HX.out).mono ?_) | (go_at_call 25; refine (HPE.out _ HX.out).mono ?_))
                  rintro e W6 ⟨rfl, rfl⟩
                  clear HWA HPE
                  go_wp2
                  have HQd := Aside0.mk HX.out.drew
                  have HFd := Aside0.mk (blk_drew HFr2.out)
                  refine start_ (n := 13) (S := fun W => W.heap[B.gx]? = some (.cells #[.slice (some ⟨B.gl, 0, none⟩) 2 2, .slice (some ⟨B.gw, 0, none⟩) 2 2, .slice (some ⟨B.gs, 0, none⟩) 2 2, .slice (some ⟨B.gt, 0, none⟩) 2 2] 35 (0, 0)) ∧ W.heap[B.gl]? = some (.cells #[.pointer (some ⟨B.g 0, 0, none⟩), .pointer (some ⟨B.g 1, 0, none⟩)] 37 (0, 0)) ∧ W.heap[bf]? = some (.cells #[.int .i64 F0, .int .i64 F1, .int .i64 F2, .int .i64 F3, .string F4] 46 (0, 0))) (ds := []) (bz 13 0) (by kernel_rfl) rfl rfl ⟨HQd.out.X, HQd.out.L, HFd.out⟩ (fun hHeld => ?_); refine with_tabW deR.tab13 deR.bits13 (fun HT_ HW_ => ?_)
                  generalize World.drew _ = W3 at hHeld HQd HFd ⊢
                  refine pu_ 0 (some 61) (bz 13 1) HT_.out ?_
                  refine pu_ 1 (some 62) (bz 13 3) HT_.out ?_
                  refine pu_ 2 (some 63) (bz 13 7) HT_.out ?_
                  refine take_ (i := 3) (N := (some 64)) (v := ?_) (a' := ?_) (bz 13 15) rfl rfl (take_ofW HT_.out HW_.out (by kernel_rfl)) (fun _ _ _ h => h) (Or.inl ⟨by rfl, ?_⟩) hHeld ?_ ?_
                  rotate_left
                  · rintro w' ⟨s0, s1, s2⟩
                    obtain ⟨x0, x1, x2, x3, _, _, _, _⟩ := bx4 s0
                    go_simp
                    with_reducible rfl
                  rotate_left
                  · simp only [Act.put, sl1, sl2, sl3, i64_w, i32_w]
                    rfl
                  refine pu_ 4 (some 65) (bz 13 31) HT_.out ?_
                  refine take_ (i := 5) (N := (some 66)) (v := ?_) (a' := ?_) (bz 13 63) rfl rfl (take_ofW HT_.out HW_.out (by kernel_rfl)) (fun _ _ _ h => h) (Or.inl ⟨by rfl, ?_⟩) hHeld ?_ ?_
                  rotate_left
                  · rintro w' ⟨s0, s1, s2⟩
                    have y0 : w'.cell? ⟨B.gl, 0, none⟩ = some (.pointer (some ⟨B.g 0, 0, none⟩)) := blk_cell s1 0
                    go_simp
                    with_reducible rfl
                  rotate_left
                  · simp only [Act.put, sl1, sl2, sl3, i64_w, i32_w]
                    rfl
                  refine take_ (i := 6) (N := (some 67)) (v := ?_) (a' := ?_) (bz 13 127) rfl rfl (take_ofW HT_.out HW_.out (by kernel_rfl)) (fun _ _ _ h => h) (Or.inl ⟨by rfl, ?_⟩) hHeld ?_ ?_
                  rotate_left
                  · rintro w' ⟨s0, s1, s2⟩
                    obtain ⟨z0_, z1_, z2_, z3_, z4_, _, _, _, _, _⟩ := bx5 s2
                    go_simp
                    with_reducible rfl
                  rotate_left
                  · simp only [Act.put, sl1, sl2, sl3, i64_w, i32_w]
                    rfl
                  refine one_ (i := 7) (N := (some 68)) (bz 13 255) rfl rfl (one_of HT_.out (by kernel_rfl)) (by decide) (fun K hK => ?_)
                  refine goes_ Try.func18 (by kernel_rfl) rfl #[.pointer (some ⟨B.g 0, 0, none⟩), .agg #[.int .i64 F0, .int .i64 F1, .int .i64 F2, .int .i64 F3, .string F4]] (by rfl) rfl rfl am ?_
                  refine (HC.out _ HQd.out).mono ?_
                  rintro e w1 ⟨Ab, cb, rfl, hR, V1, hA, hO⟩
                  refine ⟨_, rfl, ?_⟩
                  have HQ4 := Aside0.mk (HQd.out.deed 0 (by decide) hA hO)
                  have HF4 := Aside0.mk (hO.box (HQd.out.lk 0 (by decide)) hHeld.2.2 (by decide) (by decide))
                  clear hR hA hO
                  refine hK.out _ _ ⟨HQ4.out.X, HQ4.out.L, HF4.out⟩ (fun hHeld => ?_)
                  clear hK K
                  refine norm_ (a' := ?_) ?_ ?_
                  rotate_left
                  · show Act.put _ (some 68) _ = _
                    simp only [Act.put, sl1, sl2, sl3, i64_w, i32_w]
                    rfl
                  refine pu_ 8 (some 60) (bz 13 511) HT_.out ?_
                  refine pu_ 9 (some 69) (bz 13 1023) HT_.out ?_
                  refine pu_ 10 (some 70) (bz 13 2047) HT_.out ?_
                  refine pu_ 11 (some 10) (bz 13 4095) HT_.out ?_
                  refine pu_ 12 (some 11) (bz 13 8191) HT_.out ?_
                  refine done_ (done_of HT_.out (by kernel_rfl)) ?_
                  clear HT_ HW_ hHeld HQd HFd HX HFr HFr2 HC f0_ f1_ f2_ f3_ f4_ hat0
                  obtain ⟨f0_, f1_, f2_, f3_, f4_, _, _, _, _, _⟩ := bx5 HF4.out
                  have HBz := Aside0.mk (below_step HB1.out HQ4.out.two.Bl)
                  have HWQ : Aside0 (∀ a : Nat, _) := ⟨wait_q (HQ4.out.lk 0 (by decide)) HLW.out⟩
                  have HWQ2 : Aside0 (∀ a : Nat, Calls Try.prog 12 #[.pointer (some ⟨B.g 0, 0, none⟩)] (w1.drewN a) fun e w' => e = .returned (.int .i64 (nw : Int)) ∧ ∃ m, w' = (w1.drewN a).drewN m) := ⟨HWQ.out⟩
                  obtain ⟨x0, x1, x2, x3, _, _, _, _⟩ := bx4 HQ4.out.X
                  have hat0 : w1.cell? ⟨B.gl, 0, none⟩ = some (.pointer (some ⟨B.g 0, 0, none⟩)) := HQ4.out.at_l 0 (by decide)
                  clear HWQ
                  go_wp2
                  go_quiet (first | (go_at_call 12; with_reducible exact Calls.quiet_of (HWQ2.out _)) | fail)
                  go_wp2
                  go_ret
                  exact ⟨rfl, pw_below_drewN HBz.out _⟩
                · have hlep : (x.l 0).epoch = 3 := (HI.out.en 0 (by decide)).ep
                  have hT := deaf (f := ⟨F0, F1, F2, F3, F4⟩) hlep (HI.out.en 0 (by decide)).pr (by show ¬ (5 < F0 ∨ F0 = 5 ∧ F1 = 3); omega)
                  have HPE : Aside0 (∀ W, PairIs W1 W B x → Calls Try.prog 25 #[.pointer (some ⟨B.g 0, 0, none⟩)] W fun e w' => e = .returned (.int .i64 0) ∧ w' = W) := ⟨fun W h => (peer_calls _ _ _ _ W (h.lk 0 (by decide))).mono fun e w' h => ⟨by rw [h.1, hpe], h.2⟩⟩
                  obtain ⟨nw, hnw⟩ : ∃ nw, (x.l 0).wait.length = nw := ⟨_, rfl⟩
                  have HWA : Aside0 (∀ W, PairIs W1 W B x → Calls Try.prog 12 #[.pointer (some ⟨B.g 0, 0, none⟩)] W fun e w' => e = .returned (.int .i64 (nw : Int)) ∧ w' = W) := ⟨fun W h => (waiting_calls _ _ _ _ W (h.lk 0 (by decide))).mono fun e w' h => ⟨by rw [h.1, hnw], h.2⟩⟩
                  have hlok := HI.out.ok 0 (by decide)
                  obtain ⟨l', hl'⟩ : ∃ l', ((x.l 0).take ⟨F0, F1, F2, F3, F4⟩).1 = l' := ⟨_, rfl⟩
                  obtain ⟨bs, hbs⟩ : ∃ bs, ((x.l 0).take ⟨F0, F1, F2, F3, F4⟩).2.1 = bs := ⟨_, rfl⟩
                  obtain ⟨nb, hnb⟩ : ∃ nb, bs.length = nb := ⟨_, rfl⟩
                  have HT3 : Aside0 ((x.l 0).take ⟨F0, F1, F2, F3, F4⟩ = (l', bs, false)) := ⟨by rw [← hl', ← hbs, ← hT.1]⟩
                  have HC : Aside0 (∀ W, PairIs W1 W B x → Calls Try.prog 18 #[.pointer (some ⟨B.g 0, 0, none⟩), .agg #[.int .i64 F0, .int .i64 F1, .int .i64 F2, .int .i64 F3, .string F4]] W (TakeP W W1.heap.size W.heap.size (B.g 0) (B.V 0) l' bs nb)) := ⟨fun W h => by
                    have h1 := take_calls _ _ _ _ ⟨F0, F1, F2, F3, F4⟩ W (h.lk 0 (by decide)) hlok hF0.out
                    rw [HT3.out] at h1
                    rw [← hnb]
                    exact h1⟩
                  have hT2 := hT.2 (by rw [hpe]; show ¬ (F1 = 3 ∧ (0 : Int) < F0); omega)
                  obtain rfl : nb = 0 := by rw [← hnb, ← hbs, hT2.1]; rfl
                  have hlw : l'.wait.length = nw := by rw [← hl', hT2.2, hnw]
                  have HLW := Aside0.mk hlw
                  clear hT2 hlw
                  have hh3 : (F1 == 3) = false := beq_eq_false_iff_ne.mpr (by omega)
                  have hhp : decide ((0 : Int) < F0) = false := decide_eq_false (by omega)
                  have hat := HX.out.at_l 0 (by decide)
                  have hat0 : wr.cell? ⟨B.gl, 0, none⟩ = some (.pointer (some ⟨B.g 0, 0, none⟩)) := hat
                  clear hlep hT hnw hlok hl' hbs hnb hpe hat
                  have HFr2 := HFr
                  go_wp2_with (first | (go_at_call 12; refine (HWA.out _ HX.out).mono ?_) | (go_at_call 25; refine (HPE.out _ HX.out).mono ?_))
                  rintro e W6 ⟨rfl, rfl⟩
                  clear HWA HPE
                  go_wp2
                  have HQd := Aside0.mk HX.out.drew
                  have HFd := Aside0.mk (blk_drew HFr2.out)
                  refine start_ (n := 13) (S := fun W => W.heap[B.gx]? = some (.cells #[.slice (some ⟨B.gl, 0, none⟩) 2 2, .slice (some ⟨B.gw, 0, none⟩) 2 2, .slice (some ⟨B.gs, 0, none⟩) 2 2, .slice (some ⟨B.gt, 0, none⟩) 2 2] 35 (0, 0)) ∧ W.heap[B.gl]? = some (.cells #[.pointer (some ⟨B.g 0, 0, none⟩), .pointer (some ⟨B.g 1, 0, none⟩)] 37 (0, 0)) ∧ W.heap[bf]? = some (.cells #[.int .i64 F0, .int .i64 F1, .int .i64 F2, .int .i64 F3, .string F4] 46 (0, 0))) (ds := []) (bz 13 0) (by kernel_rfl) rfl rfl ⟨HQd.out.X, HQd.out.L, HFd.out⟩ (fun hHeld => ?_); refine with_tabW deR.tab13 deR.bits13 (fun HT_ HW_ => ?_)
                  generalize World.drew _ = W3 at hHeld HQd HFd ⊢
                  refine pu_ 0 (some 61) (bz 13 1) HT_.out ?_
                  refine pu_ 1 (some 62) (bz 13 3) HT_.out ?_
                  refine pu_ 2 (some 63) (bz 13 7) HT_.out ?_
                  refine take_ (i := 3) (N := (some 64)) (v := ?_) (a' := ?_) (bz 13 15) rfl rfl (take_ofW HT_.out HW_.out (by kernel_rfl)) (fun _ _ _ h => h) (Or.inl ⟨by rfl, ?_⟩) hHeld ?_ ?_
                  rotate_left
                  · rintro w' ⟨s0, s1, s2⟩
                    obtain ⟨x0, x1, x2, x3, _, _, _, _⟩ := bx4 s0
                    go_simp
                    with_reducible rfl
                  rotate_left
                  · simp only [Act.put, sl1, sl2, sl3, i64_w, i32_w]
                    rfl
                  refine pu_ 4 (some 65) (bz 13 31) HT_.out ?_
                  refine take_ (i := 5) (N := (some 66)) (v := ?_) (a' := ?_) (bz 13 63) rfl rfl (take_ofW HT_.out HW_.out (by kernel_rfl)) (fun _ _ _ h => h) (Or.inl ⟨by rfl, ?_⟩) hHeld ?_ ?_
                  rotate_left
                  · rintro w' ⟨s0, s1, s2⟩
                    have y0 : w'.cell? ⟨B.gl, 0, none⟩ = some (.pointer (some ⟨B.g 0, 0, none⟩)) := blk_cell s1 0
                    go_simp
                    with_reducible rfl
                  rotate_left
                  · simp only [Act.put, sl1, sl2, sl3, i64_w, i32_w]
                    rfl
                  refine take_ (i := 6) (N := (some 67)) (v := ?_) (a' := ?_) (bz 13 127) rfl rfl (take_ofW HT_.out HW_.out (by kernel_rfl)) (fun _ _ _ h => h) (Or.inl ⟨by rfl, ?_⟩) hHeld ?_ ?_
                  rotate_left
                  · rintro w' ⟨s0, s1, s2⟩
                    obtain ⟨z0_, z1_, z2_, z3_, z4_, _, _, _, _, _⟩ := bx5 s2
                    go_simp
                    with_reducible rfl
                  rotate_left
                  · simp only [Act.put, sl1, sl2, sl3, i64_w, i32_w]
                    rfl
                  refine one_ (i := 7) (N := (some 68)) (bz 13 255) rfl rfl (one_of HT_.out (by kernel_rfl)) (by decide) (fun K hK => ?_)
                  refine goes_ Try.func18 (by kernel_rfl) rfl #[.pointer (some ⟨B.g 0, 0, none⟩), .agg #[.int .i64 F0, .int .i64 F1, .int .i64 F2, .int .i64 F3, .string F4]] (by rfl) rfl rfl am ?_
                  refine (HC.out _ HQd.out).mono ?_
                  rintro e w1 ⟨Ab, cb, rfl, hR, V1, hA, hO⟩
                  refine ⟨_, rfl, ?_⟩
                  have HQ4 := Aside0.mk (HQd.out.deed 0 (by decide) hA hO)
                  have HF4 := Aside0.mk (hO.box (HQd.out.lk 0 (by decide)) hHeld.2.2 (by decide) (by decide))
                  clear hR hA hO
                  refine hK.out _ _ ⟨HQ4.out.X, HQ4.out.L, HF4.out⟩ (fun hHeld => ?_)
                  clear hK K
                  refine norm_ (a' := ?_) ?_ ?_
                  rotate_left
                  · show Act.put _ (some 68) _ = _
                    simp only [Act.put, sl1, sl2, sl3, i64_w, i32_w]
                    rfl
                  refine pu_ 8 (some 60) (bz 13 511) HT_.out ?_
                  refine pu_ 9 (some 69) (bz 13 1023) HT_.out ?_
                  refine pu_ 10 (some 70) (bz 13 2047) HT_.out ?_
                  refine pu_ 11 (some 10) (bz 13 4095) HT_.out ?_
                  refine pu_ 12 (some 11) (bz 13 8191) HT_.out ?_
                  refine done_ (done_of HT_.out (by kernel_rfl)) ?_
                  clear HT_ HW_ hHeld HQd HFd HX HFr HFr2 HC f0_ f1_ f2_ f3_ f4_ hat0
                  obtain ⟨f0_, f1_, f2_, f3_, f4_, _, _, _, _, _⟩ := bx5 HF4.out
                  have HBz := Aside0.mk (below_step HB1.out HQ4.out.two.Bl)
                  have HWQ : Aside0 (∀ a : Nat, _) := ⟨wait_q (HQ4.out.lk 0 (by decide)) HLW.out⟩
                  have HWQ2 : Aside0 (∀ a : Nat, Calls Try.prog 12 #[.pointer (some ⟨B.g 0, 0, none⟩)] (w1.drewN a) fun e w' => e = .returned (.int .i64 (nw : Int)) ∧ ∃ m, w' = (w1.drewN a).drewN m) := ⟨HWQ.out⟩
                  obtain ⟨x0, x1, x2, x3, _, _, _, _⟩ := bx4 HQ4.out.X
                  have hat0 : w1.cell? ⟨B.gl, 0, none⟩ = some (.pointer (some ⟨B.g 0, 0, none⟩)) := HQ4.out.at_l 0 (by decide)
                  clear HWQ
                  go_wp2
                  go_quiet (first | (go_at_call 12; with_reducible exact Calls.quiet_of (HWQ2.out _)) | fail)
                  go_wp2
                  go_ret
                  exact ⟨rfl, pw_below_drewN HBz.out _⟩
              · replace hpe : (x.l 0).peer = 5 := hpe.trans (by decide)
                have hlep : (x.l 0).epoch = 3 := (HI.out.en 0 (by decide)).ep
                have hT := deaf (f := ⟨F0, F1, F2, F3, F4⟩) hlep (HI.out.en 0 (by decide)).pr (by show ¬ (5 < F0 ∨ F0 = 5 ∧ F1 = 3); omega)
                have HPE : Aside0 (∀ W, PairIs W1 W B x → Calls Try.prog 25 #[.pointer (some ⟨B.g 0, 0, none⟩)] W fun e w' => e = .returned (.int .i64 5) ∧ w' = W) := ⟨fun W h => (peer_calls _ _ _ _ W (h.lk 0 (by decide))).mono fun e w' h => ⟨by rw [h.1, hpe], h.2⟩⟩
                obtain ⟨nw, hnw⟩ : ∃ nw, (x.l 0).wait.length = nw := ⟨_, rfl⟩
                have HWA : Aside0 (∀ W, PairIs W1 W B x → Calls Try.prog 12 #[.pointer (some ⟨B.g 0, 0, none⟩)] W fun e w' => e = .returned (.int .i64 (nw : Int)) ∧ w' = W) := ⟨fun W h => (waiting_calls _ _ _ _ W (h.lk 0 (by decide))).mono fun e w' h => ⟨by rw [h.1, hnw], h.2⟩⟩
                have hlok := HI.out.ok 0 (by decide)
                obtain ⟨l', hl'⟩ : ∃ l', ((x.l 0).take ⟨F0, F1, F2, F3, F4⟩).1 = l' := ⟨_, rfl⟩
                obtain ⟨bs, hbs⟩ : ∃ bs, ((x.l 0).take ⟨F0, F1, F2, F3, F4⟩).2.1 = bs := ⟨_, rfl⟩
                obtain ⟨nb, hnb⟩ : ∃ nb, bs.length = nb := ⟨_, rfl⟩
                have HT3 : Aside0 ((x.l 0).take ⟨F0, F1, F2, F3, F4⟩ = (l', bs, false)) := ⟨by rw [← hl', ← hbs, ← hT.1]⟩
                have HC : Aside0 (∀ W, PairIs W1 W B x → Calls Try.prog 18 #[.pointer (some ⟨B.g 0, 0, none⟩), .agg #[.int .i64 F0, .int .i64 F1, .int .i64 F2, .int .i64 F3, .string F4]] W (TakeP W W1.heap.size W.heap.size (B.g 0) (B.V 0) l' bs nb)) := ⟨fun W h => by
                  have h1 := take_calls _ _ _ _ ⟨F0, F1, F2, F3, F4⟩ W (h.lk 0 (by decide)) hlok hF0.out
                  rw [HT3.out] at h1
                  rw [← hnb]
                  exact h1⟩
                have hT2 := hT.2 (by rw [hpe]; show ¬ (F1 = 3 ∧ (5 : Int) < F0); omega)
                obtain rfl : nb = 0 := by rw [← hnb, ← hbs, hT2.1]; rfl
                have hlw : l'.wait.length = nw := by rw [← hl', hT2.2, hnw]
                have HLW := Aside0.mk hlw
                clear hT2 hlw
                have hh3 : (F1 == 3) = false := beq_eq_false_iff_ne.mpr (by omega)
                have hhp : decide ((5 : Int) < F0) = false := decide_eq_false (by omega)
                have hat := HX.out.at_l 0 (by decide)
                have hat0 : wr.cell? ⟨B.gl, 0, none⟩ = some (.pointer (some ⟨B.g 0, 0, none⟩)) := hat
                clear hlep hT hnw hlok hl' hbs hnb hpe hat
                have HFr2 := HFr
                go_wp2_with (first | (go_at_call 12; refine (HWA.out _ HX.out).mono ?_) | (go_at_call 25; refine (HPE.out _ HX.out).mono ?_))
                rintro e W6 ⟨rfl, rfl⟩
                clear HWA HPE
                go_wp2
                have HQd := Aside0.mk HX.out.drew
                have HFd := Aside0.mk (blk_drew HFr2.out)
                refine start_ (n := 13) (S := fun W => W.heap[B.gx]? = some (.cells #[.slice (some ⟨B.gl, 0, none⟩) 2 2, .slice (some ⟨B.gw, 0, none⟩) 2 2, .slice (some ⟨B.gs, 0, none⟩) 2 2, .slice (some ⟨B.gt, 0, none⟩) 2 2] 35 (0, 0)) ∧ W.heap[B.gl]? = some (.cells #[.pointer (some ⟨B.g 0, 0, none⟩), .pointer (some ⟨B.g 1, 0, none⟩)] 37 (0, 0)) ∧ W.heap[bf]? = some (.cells #[.int .i64 F0, .int .i64 F1, .int .i64 F2, .int .i64 F3, .string F4] 46 (0, 0))) (ds := []) (bz 13 0) (by kernel_rfl) rfl rfl ⟨HQd.out.X, HQd.out.L, HFd.out⟩ (fun hHeld => ?_); refine with_tabW deR.tab13 deR.bits13 (fun HT_ HW_ => ?_)
                generalize World.drew _ = W3 at hHeld HQd HFd ⊢
                refine pu_ 0 (some 61) (bz 13 1) HT_.out ?_
                refine pu_ 1 (some 62) (bz 13 3) HT_.out ?_
                refine pu_ 2 (some 63) (bz 13 7) HT_.out ?_
                refine take_ (i := 3) (N := (some 64)) (v := ?_) (a' := ?_) (bz 13 15) rfl rfl (take_ofW HT_.out HW_.out (by kernel_rfl)) (fun _ _ _ h => h) (Or.inl ⟨by rfl, ?_⟩) hHeld ?_ ?_
                rotate_left
                · rintro w' ⟨s0, s1, s2⟩
                  obtain ⟨x0, x1, x2, x3, _, _, _, _⟩ := bx4 s0
                  go_simp
                  with_reducible rfl
                rotate_left
                · simp only [Act.put, sl1, sl2, sl3, i64_w, i32_w]
                  rfl
                refine pu_ 4 (some 65) (bz 13 31) HT_.out ?_
                refine take_ (i := 5) (N := (some 66)) (v := ?_) (a' := ?_) (bz 13 63) rfl rfl (take_ofW HT_.out HW_.out (by kernel_rfl)) (fun _ _ _ h => h) (Or.inl ⟨by rfl, ?_⟩) hHeld ?_ ?_
                rotate_left
                · rintro w' ⟨s0, s1, s2⟩
                  have y0 : w'.cell? ⟨B.gl, 0, none⟩ = some (.pointer (some ⟨B.g 0, 0, none⟩)) := blk_cell s1 0
                  go_simp
                  with_reducible rfl
                rotate_left
                · simp only [Act.put, sl1, sl2, sl3, i64_w, i32_w]
                  rfl
                refine take_ (i := 6) (N := (some 67)) (v := ?_) (a' := ?_) (bz 13 127) rfl rfl (take_ofW HT_.out HW_.out (by kernel_rfl)) (fun _ _ _ h => h) (Or.inl ⟨by rfl, ?_⟩) hHeld ?_ ?_
                rotate_left
                · rintro w' ⟨s0, s1, s2⟩
                  obtain ⟨z0_, z1_, z2_, z3_, z4_, _, _, _, _, _⟩ := bx5 s2
                  go_simp
                  with_reducible rfl
                rotate_left
                · simp only [Act.put, sl1, sl2, sl3, i64_w, i32_w]
                  rfl
                refine one_ (i := 7) (N := (some 68)) (bz 13 255) rfl rfl (one_of HT_.out (by kernel_rfl)) (by decide) (fun K hK => ?_)
                refine goes_ Try.func18 (by kernel_rfl) rfl #[.pointer (some ⟨B.g 0, 0, none⟩), .agg #[.int .i64 F0, .int .i64 F1, .int .i64 F2, .int .i64 F3, .string F4]] (by rfl) rfl rfl am ?_
                refine (HC.out _ HQd.out).mono ?_
                rintro e w1 ⟨Ab, cb, rfl, hR, V1, hA, hO⟩
                refine ⟨_, rfl, ?_⟩
                have HQ4 := Aside0.mk (HQd.out.deed 0 (by decide) hA hO)
                have HF4 := Aside0.mk (hO.box (HQd.out.lk 0 (by decide)) hHeld.2.2 (by decide) (by decide))
                clear hR hA hO
                refine hK.out _ _ ⟨HQ4.out.X, HQ4.out.L, HF4.out⟩ (fun hHeld => ?_)
                clear hK K
                refine norm_ (a' := ?_) ?_ ?_
                rotate_left
                · show Act.put _ (some 68) _ = _
                  simp only [Act.put, sl1, sl2, sl3, i64_w, i32_w]
                  rfl
                refine pu_ 8 (some 60) (bz 13 511) HT_.out ?_
                refine pu_ 9 (some 69) (bz 13 1023) HT_.out ?_
                refine pu_ 10 (some 70) (bz 13 2047) HT_.out ?_
                refine pu_ 11 (some 10) (bz 13 4095) HT_.out ?_
                refine pu_ 12 (some 11) (bz 13 8191) HT_.out ?_
                refine done_ (done_of HT_.out (by kernel_rfl)) ?_
                clear HT_ HW_ hHeld HQd HFd HX HFr HFr2 HC f0_ f1_ f2_ f3_ f4_ hat0
                obtain ⟨f0_, f1_, f2_, f3_, f4_, _, _, _, _, _⟩ := bx5 HF4.out
                have HBz := Aside0.mk (below_step HB1.out HQ4.out.two.Bl)
                have HWQ : Aside0 (∀ a : Nat, _) := ⟨wait_q (HQ4.out.lk 0 (by decide)) HLW.out⟩
                have HWQ2 : Aside0 (∀ a : Nat, Calls Try.prog 12 #[.pointer (some ⟨B.g 0, 0, none⟩)] (w1.drewN a) fun e w' => e = .returned (.int .i64 (nw : Int)) ∧ ∃ m, w' = (w1.drewN a).drewN m) := ⟨HWQ.out⟩
                obtain ⟨x0, x1, x2, x3, _, _, _, _⟩ := bx4 HQ4.out.X
                have hat0 : w1.cell? ⟨B.gl, 0, none⟩ = some (.pointer (some ⟨B.g 0, 0, none⟩)) := HQ4.out.at_l 0 (by decide)
                clear HWQ
                go_wp2
                go_quiet (first | (go_at_call 12; with_reducible exact Calls.quiet_of (HWQ2.out _)) | fail)
                go_wp2
                go_ret
                exact ⟨rfl, pw_below_drewN HBz.out _⟩

end Go.Proofs.Ytdpogggajdfedaa.P
