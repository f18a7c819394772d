import Derived.Test.YtdpogggajdfedaaLinkRD
import Derived.Test.YtdpogggajdfedaaLinkRE
import Derived.Test.YtdpogggajdfedaaLinkI
import Derived.Test.YtdpogggajdfedaaPx7
import Derived.Outline
import Derived.Laws.BitsAllLaws
import Derived.WalkSpells
import Derived.StillTailTactics
namespace Go.Proofs.Ytdpogggajdfedaa.P
open Go.RowKit Go.Proofs.YtdpogggajdfedaaW.PrintWords Go.Proofs.YtdpogggajdfedaaW.PrintLast Go.Proofs.YtdpogggajdfedaaW.PrintMore
attribute [local go_sem] max2_int min2_int max_two min_two max_three min_three max_four min_four
set_option linter.unusedVariables false
set_option linter.unusedSimpArgs false
def plR.T22 : Bool × List (List Nat × List Nat) := (true, [([], []), ([], []), ([1], [1]), ([0, 2], [0, 2]), ([], []), ([], []), ([5], [5]), ([4, 6, 3], [4, 6]), ([3, 7], [3, 7]), ([8, 7, 0, 1, 2, 3, 4, 5, 6, 7, 8], [8])])
def plR.B22 : List Nat := [0, 0, 2, 7, 0, 0, 32, 127, 255, 511]
theorem plR.tab22 : rtab .any (opsOf Try.f6 22) = plR.T22 := by kernel_rfl
theorem plR.bits22 : waitsOk plR.T22.2 plR.B22 = true := by kernel_rfl
abbrev DeedT := S54
/-- An end and the document's one, in memory. -/
structure PlI (w W : World) (g : Nat) (V : Value) (l : LkS) (g2 : Nat) (V2 : Value) (r : RlS) : Prop where
  A : LkIs W w.heap.size g l V
  B : RlIs W w.heap.size g2 r V2
  Bl : Below w.heap.size w W
namespace PlI
variable {w W W' : World} {g g2 : Nat} {V V2 V' : Value} {l l' : LkS} {r r' : RlS}
theorem ne (h : PlI w W g V l g2 V2 r) : g ≠ g2 := blk_ne h.A.X h.B.X (by decide)
theorem below (h : PlI w W g V l g2 V2 r) (hb : Below W.heap.size W W') : PlI w W' g V l g2 V2 r := ⟨h.A.below hb, h.B.below hb, h.Bl.trans (hb.mono h.Bl.size)⟩
theorem drewN (h : PlI w W g V l g2 V2 r) (n : Nat) : PlI w (W.drewN n) g V l g2 V2 r := h.below (pw_below_drewN (Below.refl _ _) n)
theorem drew (h : PlI w W g V l g2 V2 r) : PlI w W.drew g V l g2 V2 r := h.below (below_drew (Below.refl _ _))
theorem alloc (h : PlI w W g V l g2 V2 r) (o : Obj) : PlI w (W.alloc o) g V l g2 V2 r := h.below (below_alloc (Below.refl _ _) o)
theorem deedA (h : PlI w W g V l g2 V2 r) (hA : LkIs W' w.heap.size g l' V') (ho : LkOnly W W' g V V') : PlI w W' g V' l' g2 V2 r := by
  refine ⟨hA, h.B.away ho.1 (fun e => e.elim (fun e => h.ne e.symm) (h.A.neT h.B.X (by decide))) (fun k hk e => e.elim (fun e => h.B.neT h.A.X (by decide) (by rw [hk, e])) (fun e => ?_)), h.Bl.trans (ho.1.below h.Bl.size (fun i hi => hi.elim (fun e => by rw [e]; exact h.A.ge) (fun e => Kd.R_base h.A.R i e)))⟩
  obtain ⟨c1, b1⟩ := Kd.Q_typed h.B.R k hk
  obtain ⟨inner, hi⟩ := Kd.R_own h.A.R
  obtain ⟨c2, b2⟩ := own_typed hi k e
  exact blk_ne b1 b2 (by decide) rfl
theorem deedB (h : PlI w W g V l g2 V2 r) (hB : RlIs W' w.heap.size g2 r' V') (ho : LkOnly W W' g2 V2 V') : PlI w W' g V l g2 V' r' := by
  refine ⟨h.A.away ho.1 (fun e => e.elim h.ne (h.B.neT h.A.X (by decide))) (fun k hk e => e.elim (fun e => h.A.neT h.B.X (by decide) (by rw [hk, e])) (fun e => ?_)), hB, h.Bl.trans (ho.1.below h.Bl.size (fun i hi => hi.elim (fun e => by rw [e]; exact h.B.ge) (fun e => Kd.Q_base h.B.R i e)))⟩
  obtain ⟨c1, b1⟩ := Kd.Q_typed h.B.R k e
  obtain ⟨inner, hi⟩ := Kd.R_own h.A.R
  obtain ⟨c2, b2⟩ := own_typed hi k hk
  exact blk_ne b1 b2 (by decide) rfl
/-- A row that is new since W0 stays where the document's end does something. -/
theorem rowB {α : Type} {d : Kd α} {e n : Nat} {v : Value} {ok : Nat → Prop} {xs : List α} {W0 : World} {V0 : Value} {l0 : LkS} {r0 : RlS} (h0 : PlI w W0 g V0 l0 g2 V2 r0) (hE : d.E = []) (hn : W0.heap.size ≤ n) (h : d.R e W n ok v xs) (ho : LkOnly W W' g2 V2 V') : d.R e W' n ok v xs :=
  R_only hE h ho.1 (fun k hk hS => by
    have h1 := Kd.R_base h k hk
    rcases hS with hS | hS
    · have := h0.B.lt; omega
    · have := Kd.Q_lt h0.B.R k hS; omega)
end PlI
def inD (x : DeedT) : Bool := inB x.f0 && inB x.f2.f0
theorem all_rdD {l : List DeedT} (h : (l.all inD) = true) (i : Nat) (hi : i < l.length) : inB (rd_T54 l (i : Int)).f0 = true ∧ -9223372036854775808 ≤ (rd_T54 l (i : Int)).f2.f0 := by
  have h2 := List.all_eq_true.1 h (rd_T54 l (i : Int)) (by unfold rd_T54; rw [show ((i : Int)).toNat = i from rfl, List.getD_eq_getElem?_getD, List.getElem?_eq_getElem hi]; exact List.getElem_mem hi)
  unfold inD at h2
  simp only [Bool.and_eq_true, inB_iff] at h2
  exact ⟨(inB_iff _).2 h2.1, h2.2.1⟩
theorem frames_same (fs : List FrT) (hm : fs.length < 1000) : carillonlaw09_frames.f 2000 fs fs = some true := by
  have key : ∀ (n k i : Nat), i ≤ fs.length → fs.length - i = n → n < k → carillonlaw09_frames.l0 k fs fs (i : Int) = some true := by
    intro n
    induction n with
    | zero =>
      intro k i h1 h2 h3
      obtain ⟨k, rfl⟩ : ∃ q, k = q + 1 := ⟨k - 1, by omega⟩
      unfold carillonlaw09_frames.l0
      rw [if_neg (by omega)]
    | succ n ih =>
      intro k i h1 h2 h3
      obtain ⟨k, rfl⟩ : ∃ q, k = q + 1 := ⟨k - 1, by omega⟩
      unfold carillonlaw09_frames.l0
      rw [if_pos (by omega), if_pos (by omega), if_pos (by omega)]
      have hb : ∀ x : FrT, (!((x.f0) == (x.f0)) || (!((x.f1) == (x.f1)) || (!((x.f2) == (x.f2)) || (!((x.f3) == (x.f3)) || (!(((x.f4).toList) == ((x.f4).toList))))))) = false := fun x => by simp
      rw [hb, if_neg (by decide), show wrap64 ((i : Int) + 1) = ((i + 1 : Nat) : Int) by unfold wrap64; omega]
      exact ih k (i + 1) (by omega) (by omega) (by omega)
  unfold carillonlaw09_frames.f
  rw [if_pos rfl]
  exact key fs.length 2000 0 (Nat.zero_le _) rfl (by omega)
theorem take_len (l : LkS) (f : FrT) : (l.take f).2.1.length ≤ 1 := by
  unfold LkS.take
  split
  · exact Nat.zero_le _
  · split
    · exact Nat.zero_le _
    · show (if f.f2 = ((l.meet f.f0).ackd f.f3).taken + 1 then [f.f4] else []).length ≤ 1
      split
      · exact Nat.le_refl _
      · exact Nat.zero_le _
def carillonlaw09_LinkPlays.f (a0 : Int) (l1 : List DeedT) : Option Bool :=
  if (l1.all inD) = true then some true else none
set_option maxHeartbeats 16000000 in
set_option maxRecDepth 100000 in
theorem carillonlaw09_LinkPlays.calls (a0 : Int) (A1 : Option Addr) (c1 : Nat) (l1 : List DeedT) (r : Bool) (w : World) (hr1 : Kd.C k54 w A1 l1.length l1) (hc1 : l1.length ≤ c1) (hr_ : Aside0 (r = true)) (h : carillonlaw09_LinkPlays.f a0 l1 = some r) :
    Calls Try.prog 6 #[.int .i64 a0, .slice A1 l1.length c1] w fun e w' => e = .returned (.bool r) ∧ Below w.heap.size w w' := by
  obtain rfl := hr_.out
  unfold carillonlaw09_LinkPlays.f at h
  split at h
  case isFalse => exact absurd h (by simp)
  rename_i hi0
  have HI0 := Aside0.mk hi0
  have HR0 := Aside0.mk hr1
  have hm0 := hr1.2.1
  clear hr1 hi0 h hr_
  go_enter Try.func6, Try.ntmps6
  go_wp2_with (go_at_call 9; refine (examples_calls w).mono ?_)
  rintro e W1 ⟨rfl, hB1⟩
  have HB1 := Aside0.mk hB1
  clear hB1
  go_wp2_with (go_at_call 13; refine (new_calls a0 W1).mono ?_)
  rintro e W2 ⟨hb2, hN⟩
  have HB2 := Aside0.mk (below_step HB1.out hb2)
  rcases hN with ⟨hbad, rfl⟩ | ⟨hgood, g, hg, rfl, hL⟩
  · clear hb2
    go_wp2_with (go_at_call 19; refine (rnew_calls a0 W2).mono ?_)
    rintro e W3 ⟨hb3, hN⟩
    rcases hN with ⟨_, rfl⟩ | ⟨hno, _⟩
    · have HB3 := Aside0.mk (below_step HB2.out hb3)
      clear hb3 hbad
      go_wp2
      go_ret
      exact ⟨rfl, HB3.out⟩
    · exact absurd hbad hno
  · have HL2 := Aside0.mk (hL w.heap.size HB1.out.size)
    clear hb2 hL hg
    go_wp2_with (go_at_call 19; refine (rnew_calls a0 W2).mono ?_)
    rintro e W3 ⟨hb3, hN⟩
    rcases hN with ⟨hbad, _⟩ | ⟨_, g2, hg2, rfl, hL⟩
    · exact absurd hbad hgood
    have HP0 : Aside0 (PlI w W3 g (.slice none 0 0) (LkS.begin_ a0) g2 (.slice none 0 0) (RlS.begin_ a0)) := ⟨⟨HL2.out.below hb3, hL w.heap.size HB2.out.size, below_step HB2.out hb3⟩⟩
    clear hb3 hL hg2 HL2 HB2 HB1 hgood
    go_wp2
    go_loopg [9, 10, 11, 12, 13, 14, 15, 16] (l1.length + 1) (fun kq v9 v10 v11 v12 v13 v14 v15 v16 W => ∃ (i : Nat) (l : LkS) (r : RlS) (V V2 : Value), i ≤ l1.length ∧ i ≤ 200 ∧ v9 = .int .i64 (i : Int) ∧ l1.length - i < kq ∧ Aside0 (PlI w W g V l g2 V2 r) ∧ Aside0 l.Ok ∧ Aside0 (Rel l r))
    case atStart => exact ⟨0, _, _, _, _, Nat.zero_le _, Nat.zero_le _, rfl, by omega, HP0, ⟨LkS.Ok.begin_ a0⟩, ⟨Rel.begin_ a0⟩⟩
    case round =>
      obtain ⟨i, l, r, V, V2, hi, hi3, rfl, hq, HP, HK, HR⟩ := hrel
      clear HP0
      by_cases hlt : i < l1.length ∧ i < 200
      · obtain ⟨hl, hl3⟩ := hlt
        have hdc : decide ((i : Int) < 200) = true := decide_eq_true (by omega)
        obtain ⟨ad, e0, ht0, ht1, ht2, ht3, ht4, ht5, ht6⟩ := at_T54 (Kd.C_below HR0.out HP.out.Bl) (i : Int) (by omega) (by omega)
        cases e0
        have hyb := all_rdD HI0.out i hl
        rw [show ((i : Int)).toNat = i from rfl] at ht0 ht1 ht2 ht3 ht4 ht5 ht6
        obtain ⟨y, hy⟩ : ∃ y, rd_T54 l1 (i : Int) = y := ⟨_, rfl⟩
        rw [hy] at ht0 ht1 ht2 ht3 ht4 ht5 ht6 hyb
        clear hy
        obtain ⟨y0, y1, y2⟩ := y
        obtain ⟨z0, z1, z2, z3, z4⟩ := y2
        dsimp only at ht0 ht1 ht2 ht3 ht4 ht5 ht6 hyb
        obtain ⟨kd, hkd⟩ : ∃ kd, pickN y0 4 = kd := ⟨_, rfl⟩
        have hk4 : kd < 4 := by rw [← hkd]; exact pickN_lt y0 4 (by decide)
        have HPK := Aside0.mk (fun W => pick_calls y0 4 W hyb.1 (by decide) (by decide))
        simp only [hkd] at HPK
        have HF0 := Aside0.mk hyb.2
        clear hyb hkd
        have HX0 := Aside0.mk (heap_alloc_new wr (.cells #[.int .i64 y0, .string y1, .int .i64 z0, .int .i64 z1, .int .i64 z2, .int .i64 z3, .string z4] 54))
        have HQ0 := Aside0.mk (HP.out.alloc (.cells #[.int .i64 y0, .string y1, .int .i64 z0, .int .i64 z1, .int .i64 z2, .int .i64 z3, .string z4] 54))
        obtain ⟨b3, hb3⟩ : ∃ b3, wr.heap.size = b3 := ⟨_, rfl⟩
        rw [hb3] at HX0
        clear HP
        go_wp2_with (go_at_call 14; refine (HPK.out _).mono ?_)
        rintro e W4 ⟨rfl, m4, rfl⟩
        try rw [hb3]
        clear hb3 ht0 ht1 ht2 ht3 ht4 ht5 ht6 HPK
        have HX1 := Aside0.mk (blk_drewN HX0.out m4)
        have HQ1 := Aside0.mk (HQ0.out.drewN m4)
        generalize (wr.alloc (.cells #[.int .i64 y0, .string y1, .int .i64 z0, .int .i64 z1, .int .i64 z2, .int .i64 z3, .string z4] 54)).drewN m4 = W4 at HX1 HQ1 ⊢
        clear HX0 HQ0
        by_cases hk0 : kd = 0
        case pos =>
          have q0 : ((kd : Int) == 0) = true := beq_iff_eq.mpr (by omega)
          obtain ⟨hRs, hes⟩ := HR.out.send y1
          obtain ⟨er, her⟩ : ∃ er, (l.send y1).2 = er := ⟨_, rfl⟩
          have HSA : Aside0 (∀ W, PlI w W g V l g2 V2 r → Calls Try.prog 15 #[.pointer (some ⟨g, 0, none⟩), .string y1] W fun e w' => e = .returned (.int .i64 er) ∧ ∃ V', LkIs w' w.heap.size g (l.send y1).1 V' ∧ LkOnly W w' g V V') := ⟨fun W h => by have h := send_calls _ _ l V y1 W h.A HK.out.w; rw [her] at h; exact h⟩
          have HSB : Aside0 (∀ W V' l', PlI w W g V' l' g2 V2 r → Calls Try.prog 20 #[.pointer (some ⟨g2, 0, none⟩), .string y1] W fun e w' => e = .returned (.int .i64 er) ∧ ∃ V3, RlIs w' w.heap.size g2 (r.send y1).1 V3 ∧ LkOnly W w' g2 V2 V3) := ⟨fun W V' l' h => by have h := rsend_calls _ _ r V2 y1 W h.B (by rw [HR.out.len]; exact HK.out.w); rw [← hes, her] at h; exact h⟩
          have HK9 : Aside0 (l.send y1).1.Ok := ⟨HK.out.send y1⟩
          have HR9 := Aside0.mk hRs
          have hee : (er == er) = true := by simp
          clear hRs hes her hk0
          go_wp2
          have HQd := Aside0.mk HQ1.out.drew
          have HXd := Aside0.mk (blk_drew HX1.out)
          refine start_ (n := 10) (S := fun W => W.heap[b3]? = some (.cells #[.int .i64 y0, .string y1, .int .i64 z0, .int .i64 z1, .int .i64 z2, .int .i64 z3, .string z4] 54 (0, 0))) (ds := []) (bz 10 0) (by kernel_rfl) rfl rfl HXd.out (fun hHeld => ?_); refine with_tabW plR.tab22 plR.bits22 (fun HT_ HW_ => ?_)
          generalize World.drew _ = W5 at hHeld HQd HXd ⊢
          refine pu_ 0 (some 104) (bz 10 1) HT_.out ?_
          refine pu_ 1 (some 105) (bz 10 3) HT_.out ?_
          refine pu_ 4 (some 108) (bz 10 19) HT_.out ?_
          refine pu_ 5 (some 109) (bz 10 51) HT_.out ?_
          refine take_ (i := 2) (N := (some 106)) (v := ?_) (a' := ?_) (bz 10 55) rfl rfl (take_ofW HT_.out HW_.out (by kernel_rfl)) (fun _ _ _ h => h) (Or.inl ⟨by rfl, ?_⟩) hHeld ?_ ?_
          rotate_left
          · rintro w' s0
            obtain ⟨d0, d1, d2, d3, d4, d5, d6, _, _, _, _, _, _, _⟩ := bx7 s0
            go_simp
            with_reducible rfl
          rotate_left
          · simp only [Act.put, sl1, sl2, sl3, i64_w, i32_w]
            rfl
          refine take_ (i := 6) (N := (some 110)) (v := ?_) (a' := ?_) (bz 10 119) rfl rfl (take_ofW HT_.out HW_.out (by kernel_rfl)) (fun _ _ _ h => h) (Or.inl ⟨by rfl, ?_⟩) hHeld ?_ ?_
          rotate_left
          · rintro w' s0
            obtain ⟨d0, d1, d2, d3, d4, d5, d6, _, _, _, _, _, _, _⟩ := bx7 s0
            go_simp
            with_reducible rfl
          rotate_left
          · simp only [Act.put, sl1, sl2, sl3, i64_w, i32_w]
            rfl
          refine one_ (i := 3) (N := (some 107)) (bz 10 127) rfl rfl (one_of HT_.out (by kernel_rfl)) (by decide) (fun K hK => ?_)
          refine goes_ Try.func15 (by kernel_rfl) rfl #[.pointer (some ⟨g, 0, none⟩), .string y1] (by rfl) rfl rfl am ?_
          refine (HSA.out _ HQd.out).mono ?_
          rintro e w1 ⟨rfl, Va, hA, hO⟩
          refine ⟨_, rfl, ?_⟩
          have HQ2 := Aside0.mk (HQd.out.deedA hA hO)
          have HX2 := Aside0.mk (hO.box HQd.out.A HXd.out (by decide) (by decide))
          refine hK.out _ _ HX2.out (fun hHeld => ?_)
          clear hK K
          refine norm_ (a' := ?_) ?_ ?_
          rotate_left
          · show Act.put _ (some 107) _ = _
            simp only [Act.put, sl1, sl2, sl3, i64_w, i32_w]
            rfl
          refine one_ (i := 7) (N := (some 111)) (bz 10 255) rfl rfl (one_of HT_.out (by kernel_rfl)) (by decide) (fun K hK => ?_)
          refine goes_ Try.func20 (by kernel_rfl) rfl #[.pointer (some ⟨g2, 0, none⟩), .string y1] (by rfl) rfl rfl am ?_
          refine (HSB.out _ _ _ HQ2.out).mono ?_
          rintro e w2 ⟨rfl, Vb, hB, hOB⟩
          refine ⟨_, rfl, ?_⟩
          have HP9 := Aside0.mk (HQ2.out.deedB hB hOB)
          have HX3 := Aside0.mk (hOB.boxR HQ2.out.B HX2.out (by decide) (by decide))
          refine hK.out _ _ HX3.out (fun hHeld => ?_)
          clear hK K
          refine norm_ (a' := ?_) ?_ ?_
          rotate_left
          · show Act.put _ (some 111) _ = _
            simp only [Act.put, sl1, sl2, sl3, i64_w, i32_w]
            rfl
          refine pu_ 8 (some 112) (bz 10 511) HT_.out ?_
          refine pu_ 9 (some 11) (bz 10 1023) HT_.out ?_
          refine done_ (done_of HT_.out (by kernel_rfl)) ?_
          clear HT_ HW_ hHeld hA hO hB hOB
          generalize (l.send y1).1 = l9 at HP9 HK9 HR9
          generalize (r.send y1).1 = r9 at HP9 HR9
          obtain ⟨V9, hV9⟩ : ∃ V9, Va = V9 := ⟨_, rfl⟩
          obtain ⟨V29, hV29⟩ : ∃ V29, Vb = V29 := ⟨_, rfl⟩
          rw [hV9, hV29] at HP9
          clear hV9 hV29 HQ1 HX1 HQd HXd HQ2 HX2 HX3 HSA HSB HK HR hee q0
          obtain ⟨n9, hn9⟩ : ∃ n9, l9.wait.length = n9 := ⟨_, rfl⟩
          obtain ⟨p9, hp9⟩ : ∃ p9, l9.peer = p9 := ⟨_, rfl⟩
          have HPE : Aside0 (∀ n, Calls Try.prog 25 #[.pointer (some ⟨g, 0, none⟩)] (w2.drewN n) fun e w' => e = .returned (.int .i64 p9) ∧ w' = w2.drewN n) := ⟨fun n => by have h := peer_calls _ _ _ _ (w2.drewN n) (HP9.out.drewN n).A; rw [hp9] at h; exact h⟩
          have HWA : Aside0 (∀ n, Calls Try.prog 12 #[.pointer (some ⟨g, 0, none⟩)] (w2.drewN n) fun e w' => e = .returned (.int .i64 (n9 : Int)) ∧ w' = w2.drewN n) := ⟨fun n => by have h := waiting_calls _ _ _ _ (w2.drewN n) (HP9.out.drewN n).A; rw [hn9] at h; exact h⟩
          have HWR : Aside0 (∀ n, Calls Try.prog 26 #[.pointer (some ⟨g2, 0, none⟩)] (w2.drewN n) fun e w' => e = .returned (.int .i64 (n9 : Int)) ∧ w' = w2.drewN n) := ⟨fun n => by have h := rwaiting_calls _ _ _ _ (w2.drewN n) (HP9.out.drewN n).B; rw [HR9.out.len, hn9] at h; exact h⟩
          obtain ⟨_, hpc, _, _, _, _, _, _, _⟩ := HP9.out.B.cells
          rw [HR9.out.pe, hp9] at hpc
          clear hn9 hp9
          have hpp : (p9 != p9) = false := by simp
          have hnn : ((n9 : Int) != (n9 : Int)) = false := by simp
          go_wp2
          go_quiet (first | (go_at_call 25; exact Calls.quiet_of_same (HPE.out _)) | (go_at_call 12; exact Calls.quiet_of_same (HWA.out _)) | (go_at_call 26; exact Calls.quiet_of_same (HWR.out _)) | fail)
          clear hpc
          go_wp2
          go_roundg (l1.length - i)
          case rel => exact ⟨i + 1, l9, r9, V9, V29, by omega, by omega, by first | go_num | (congr 1; omega) | rfl, by omega, ⟨HP9.out.drewN _⟩, HK9, HR9⟩
          case measure => omega
        case neg =>
          have q0 : ((kd : Int) == 0) = false := beq_eq_false_iff_ne.mpr (by omega)
          by_cases hk1 : kd = 1
          case pos =>
            have q1 : ((kd : Int) == 1) = true := beq_iff_eq.mpr (by omega)
            obtain ⟨hRs, hes⟩ := HR.out.outs HK.out
            have HK9 : Aside0 l.outs.1.Ok := ⟨HK.out.outs⟩
            have HR9 := Aside0.mk hRs
            have hlen := l.outs_len
            have HOK := Aside0.mk (HR.out.ok HK.out)
            obtain ⟨fs, hfs⟩ : ∃ fs, l.outs.2 = fs := ⟨_, rfl⟩
            rw [hfs] at hes hlen
            have HFS := Aside0.mk hfs
            have HES := Aside0.mk hes
            clear hRs hk0 hk1 hes hfs
            go_wp2_with (go_at_call 16; refine (outs_calls _ _ l V _ HQ1.out.A HK.out).mono ?_)
            intro e W5 hS
            obtain ⟨v5, rfl, hRv, hA, hO⟩ := hS
            rw [HFS.out] at hRv
            have HQ2 := Aside0.mk (HQ1.out.deedA hA hO)
            have HRV := Aside0.mk hRv
            clear hA hO hRv HX1
            go_wp2_with (go_at_call 22; refine (rout_calls _ _ r V2 _ HQ2.out.B HOK.out).mono ?_)
            intro e W6 hS
            obtain ⟨v6, rfl, hRv, hB, hOB⟩ := hS
            rw [← HES.out] at hRv
            have HP9a := Aside0.mk (HQ2.out.deedB hB hOB)
            have HRV1 := Aside0.mk (HQ1.out.rowB rfl (Nat.le_refl _) HRV.out hOB)
            obtain ⟨A5, c5, e5, hc5, hC5⟩ := Kd.R_reads HRV1.out
            obtain ⟨A6, c6, e6, hc6, hC6⟩ := Kd.R_reads hRv
            subst e5
            subst e6
            have HFR : Aside0 (Calls Try.prog 21 #[.slice A5 fs.length c5, .slice A6 fs.length c6] W6 fun e w' => e = .returned (.bool true) ∧ Drawn0 W6 w') := ⟨carillonlaw09_frames.calls 2000 A5 c5 fs A6 c6 fs true W6 hC5 hc5 hC6 hc6 (frames_same fs (by omega))⟩
            clear hRv hB hOB HRV HQ2 HQ1 HOK HRV1 hC5 hC6 hc5 hc6 HFS HES
            generalize l.outs.1 = l9 at HP9a HK9 HR9
            generalize r.outs.1 = r9 at HP9a HR9
            go_wp2_with (go_at_call 21; refine HFR.out.mono ?_)
            rintro e W7 ⟨rfl, hD⟩
            obtain ⟨m7, rfl⟩ := hD.out
            have HP9 := Aside0.mk (HP9a.out.drewN m7)
            obtain ⟨V9, hV9⟩ : ∃ V9, V = V9 := ⟨_, rfl⟩
            obtain ⟨V29, hV29⟩ : ∃ V29, V2 = V29 := ⟨_, rfl⟩
            rw [hV9, hV29] at HP9
            clear hV9 hV29 HFR HP9a hD hlen HK HR q0 q1
            generalize W6.drewN m7 = W9 at HP9 ⊢
            obtain ⟨n9, hn9⟩ : ∃ n9, l9.wait.length = n9 := ⟨_, rfl⟩
            obtain ⟨p9, hp9⟩ : ∃ p9, l9.peer = p9 := ⟨_, rfl⟩
            have HPE : Aside0 (∀ n, Calls Try.prog 25 #[.pointer (some ⟨g, 0, none⟩)] (W9.drewN n) fun e w' => e = .returned (.int .i64 p9) ∧ w' = W9.drewN n) := ⟨fun n => by have h := peer_calls _ _ _ _ (W9.drewN n) (HP9.out.drewN n).A; rw [hp9] at h; exact h⟩
            have HWA : Aside0 (∀ n, Calls Try.prog 12 #[.pointer (some ⟨g, 0, none⟩)] (W9.drewN n) fun e w' => e = .returned (.int .i64 (n9 : Int)) ∧ w' = W9.drewN n) := ⟨fun n => by have h := waiting_calls _ _ _ _ (W9.drewN n) (HP9.out.drewN n).A; rw [hn9] at h; exact h⟩
            have HWR : Aside0 (∀ n, Calls Try.prog 26 #[.pointer (some ⟨g2, 0, none⟩)] (W9.drewN n) fun e w' => e = .returned (.int .i64 (n9 : Int)) ∧ w' = W9.drewN n) := ⟨fun n => by have h := rwaiting_calls _ _ _ _ (W9.drewN n) (HP9.out.drewN n).B; rw [HR9.out.len, hn9] at h; exact h⟩
            obtain ⟨_, hpc, _, _, _, _, _, _, _⟩ := HP9.out.B.cells
            rw [HR9.out.pe, hp9] at hpc
            clear hn9 hp9
            have hpp : (p9 != p9) = false := by simp
            have hnn : ((n9 : Int) != (n9 : Int)) = false := by simp
            go_wp2
            go_quiet (first | (go_at_call 25; exact Calls.quiet_of_same (HPE.out _)) | (go_at_call 12; exact Calls.quiet_of_same (HWA.out _)) | (go_at_call 26; exact Calls.quiet_of_same (HWR.out _)) | fail)
            clear hpc
            go_wp2
            go_roundg (l1.length - i)
            case rel => exact ⟨i + 1, l9, r9, V9, V29, by omega, by omega, by first | go_num | (congr 1; omega) | rfl, by omega, ⟨HP9.out.drewN _⟩, HK9, HR9⟩
            case measure => omega
          case neg =>
            have q1 : ((kd : Int) == 1) = false := beq_eq_false_iff_ne.mpr (by omega)
            by_cases hk2 : kd = 2
            case pos =>
              have q2 : ((kd : Int) == 2) = true := beq_iff_eq.mpr (by omega)
              have HK9 : Aside0 l.tick.Ok := ⟨HK.out.tick⟩
              have HR9 : Aside0 (Rel l.tick r.tick) := ⟨HR.out.tick HK.out⟩
              clear hk0 hk1 hk2
              go_wp2_with (go_at_call 17; refine (tick_calls _ _ l V _ HQ1.out.A HK.out).mono ?_)
              rintro e W5 ⟨rfl, hA, hO⟩
              have HQ2 := Aside0.mk (HQ1.out.deedA hA hO)
              clear hA hO HX1
              go_wp2_with (go_at_call 23; refine (rtick_calls _ _ r V2 _ HQ2.out.B (by rw [HR.out.ti]; exact HK.out.k0) (by rw [HR.out.ti]; exact HK.out.k1)).mono ?_)
              rintro e W6 ⟨rfl, hB, hOB⟩
              have HP9 := Aside0.mk (HQ2.out.deedB hB hOB)
              clear hB hOB HQ2 HQ1
              generalize l.tick = l9 at HP9 HK9 HR9
              generalize r.tick = r9 at HP9 HR9
              obtain ⟨V9, hV9⟩ : ∃ V9, V = V9 := ⟨_, rfl⟩
              obtain ⟨V29, hV29⟩ : ∃ V29, V2 = V29 := ⟨_, rfl⟩
              rw [hV9, hV29] at HP9
              clear hV9 hV29 HK HR q0 q1 q2
              obtain ⟨n9, hn9⟩ : ∃ n9, l9.wait.length = n9 := ⟨_, rfl⟩
              obtain ⟨p9, hp9⟩ : ∃ p9, l9.peer = p9 := ⟨_, rfl⟩
              have HPE : Aside0 (∀ n, Calls Try.prog 25 #[.pointer (some ⟨g, 0, none⟩)] (W6.drewN n) fun e w' => e = .returned (.int .i64 p9) ∧ w' = W6.drewN n) := ⟨fun n => by have h := peer_calls _ _ _ _ (W6.drewN n) (HP9.out.drewN n).A; rw [hp9] at h; exact h⟩
              have HWA : Aside0 (∀ n, Calls Try.prog 12 #[.pointer (some ⟨g, 0, none⟩)] (W6.drewN n) fun e w' => e = .returned (.int .i64 (n9 : Int)) ∧ w' = W6.drewN n) := ⟨fun n => by have h := waiting_calls _ _ _ _ (W6.drewN n) (HP9.out.drewN n).A; rw [hn9] at h; exact h⟩
              have HWR : Aside0 (∀ n, Calls Try.prog 26 #[.pointer (some ⟨g2, 0, none⟩)] (W6.drewN n) fun e w' => e = .returned (.int .i64 (n9 : Int)) ∧ w' = W6.drewN n) := ⟨fun n => by have h := rwaiting_calls _ _ _ _ (W6.drewN n) (HP9.out.drewN n).B; rw [HR9.out.len, hn9] at h; exact h⟩
              obtain ⟨_, hpc, _, _, _, _, _, _, _⟩ := HP9.out.B.cells
              rw [HR9.out.pe, hp9] at hpc
              clear hn9 hp9
              have hpp : (p9 != p9) = false := by simp
              have hnn : ((n9 : Int) != (n9 : Int)) = false := by simp
              go_wp2
              go_quiet (first | (go_at_call 25; exact Calls.quiet_of_same (HPE.out _)) | (go_at_call 12; exact Calls.quiet_of_same (HWA.out _)) | (go_at_call 26; exact Calls.quiet_of_same (HWR.out _)) | fail)
              clear hpc
              go_wp2
              go_roundg (l1.length - i)
              case rel => exact ⟨i + 1, l9, r9, V9, V29, by omega, by omega, by first | go_num | (congr 1; omega) | rfl, by omega, ⟨HP9.out.drewN _⟩, HK9, HR9⟩
              case measure => omega
            case neg =>
              have q2 : ((kd : Int) == 2) = false := beq_eq_false_iff_ne.mpr (by omega)
              obtain ⟨hRs, hes⟩ := HR.out.take ⟨z0, z1, z2, z3, z4⟩
              have HK9 : Aside0 (l.take ⟨z0, z1, z2, z3, z4⟩).1.Ok := ⟨HK.out.take _⟩
              have HR9 := Aside0.mk hRs
              have HES := Aside0.mk hes
              have HTA := Aside0.mk (take_calls w.heap.size g l V ⟨z0, z1, z2, z3, z4⟩ W4 HQ1.out.A HK.out HF0.out)
              have HTB : Aside0 (∀ W V' l', PlI w W g V' l' g2 V2 r → Calls Try.prog 24 #[.pointer (some ⟨g2, 0, none⟩), .agg #[.int .i64 z0, .int .i64 z1, .int .i64 z2, .int .i64 z3, .string z4]] W (RTakePost W w.heap.size g2 V2 (r.take ⟨z0, z1, z2, z3, z4⟩))) := ⟨fun W V' l' h => rtake_calls _ _ r V2 ⟨z0, z1, z2, z3, z4⟩ W h.B (HR.out.ok HK.out)⟩
              clear hRs hes hk0 hk1 hk2 hk4
              obtain ⟨d0, d1, d2, d3, d4, d5, d6, _, _, _, _, _, _, _⟩ := bx7 HX1.out
              go_wp2_with (go_at_call 18; refine HTA.out.mono ?_)
              intro e W5 hS
              obtain ⟨A5, c5, rfl, hR5, V9, hA, hO⟩ := hS
              have HQ2 := Aside0.mk (HQ1.out.deedA hA hO)
              have HX2 := Aside0.mk (hO.box HQ1.out.A HX1.out (by decide) (by decide))
              obtain ⟨bs, hbs⟩ : ∃ bs, (l.take ⟨z0, z1, z2, z3, z4⟩).2.1 = bs := ⟨_, rfl⟩
              obtain ⟨rs, hrs⟩ : ∃ rs, (l.take ⟨z0, z1, z2, z3, z4⟩).2.2 = rs := ⟨_, rfl⟩
              rw [hbs] at hR5
              rw [hbs, hrs]
              have hbl : bs.length ≤ 1 := by rw [← hbs]; exact take_len _ _
              have HBS := Aside0.mk hbs
              have HRS := Aside0.mk hrs
              have HR5 := Aside0.mk hR5
              clear hA hO hR5 HX1 HTA d0 d1 d2 d3 d4 d5 d6 hbs hrs
              obtain ⟨d0, d1, d2, d3, d4, d5, d6, _, _, _, _, _, _, _⟩ := bx7 HX2.out
              go_wp2_with (go_at_call 24; refine (HTB.out _ _ _ HQ2.out).mono ?_)
              intro e W6 hS
              obtain ⟨A6, c6, rfl, hR6, V29, hB, hOB⟩ := hS
              have hbs6 : (r.take ⟨z0, z1, z2, z3, z4⟩).2.1 = bs := by rw [← HES.out]; exact HBS.out
              have hrs6 : (r.take ⟨z0, z1, z2, z3, z4⟩).2.2 = rs := by rw [← HES.out]; exact HRS.out
              rw [hbs6] at hR6
              rw [hbs6, hrs6]
              have HPA := Aside0.mk (HQ2.out.deedB hB hOB)
              have HRA := Aside0.mk (HQ1.out.rowB rfl (Nat.le_refl _) HR5.out hOB)
              have HRB := Aside0.mk hR6
              clear hR6 hB hOB HR5 HQ1 HQ2 HX2 HTB d0 d1 d2 d3 d4 d5 d6 HES HBS HRS hbs6 hrs6
              generalize (l.take ⟨z0, z1, z2, z3, z4⟩).1 = l9 at HPA HK9 HR9
              generalize (r.take ⟨z0, z1, z2, z3, z4⟩).1 = r9 at HPA HR9
              obtain ⟨n5, hn5⟩ : ∃ n5, bs.length = n5 := ⟨_, rfl⟩
              rw [hn5] at HRA HRB hbl ⊢
              have hnn : ((n5 : Int) == (n5 : Int)) = true := by simp
              have hrr : (rs == rs) = true := by simp
              have HN5 := Aside0.mk hn5
              clear hn5 HK HR
              go_wp2
              clear hnn hrr
              go_loopg [11, 16] (n5 + 1) (fun kq v11 v16 W => ∃ (j : Nat), j ≤ n5 ∧ v11 = .bool true ∧ v16 = .int .i64 (j : Int) ∧ n5 - j < kq ∧ Aside0 (PlI w W g V9 l9 g2 V29 r9) ∧ Aside0 (Kd.string.R 9 W W4.heap.size (fun _ => True) (.slice A5 n5 c5) bs) ∧ Aside0 (Kd.string.R 9 W W5.heap.size (fun _ => True) (.slice A6 n5 c6) bs))
              case atStart => exact ⟨0, Nat.zero_le _, rfl, rfl, by omega, HPA, HRA, HRB⟩
              case round =>
                obtain ⟨j, hj, rfl, rfl, hqj, HP9, HRA2, HRB2⟩ := hrel
                clear HPA HRA HRB
                by_cases hjl : j < n5
                · have h2 := (Kd.R_reads' HRA2.out).2.2
                  have h3 := (Kd.R_reads' HRB2.out).2.2
                  obtain ⟨ad1, e1, hs1⟩ := Kd.at_string h2 (j : Int) (by omega) (by rw [HN5.out]; omega)
                  obtain ⟨ad2, e2, hs2⟩ := Kd.at_string h3 (j : Int) (by omega) (by rw [HN5.out]; omega)
                  rw [show ((j : Int)).toNat = j from rfl] at hs1 hs2
                  generalize rdOf ByteArray.empty bs (j : Int) = st at hs1 hs2
                  subst e1
                  subst e2
                  clear h2 h3
                  have hst2 : (st.toList == st.toList) = true := by simp
                  have hjI : (j : Int) < (n5 : Int) := by omega
                  have hjI0 : (0 : Int) ≤ (j : Int) := by omega
                  go_wp2
                  go_quiet (fail)
                  go_wp2
                  go_roundg (n5 - j)
                  case rel => exact ⟨j + 1, by omega, rfl, by first | go_num | (congr 1; omega) | rfl, by omega, ⟨HP9.out.drewN _⟩, ⟨Kd.R_drewN HRA2.out _⟩, ⟨Kd.R_drewN HRB2.out _⟩⟩
                  case measure => omega
                · have hd3 : decide ((j : Int) < (n5 : Int)) = false := decide_eq_false (by omega)
                  clear HRA2 HRB2
                  obtain ⟨n9, hn9⟩ : ∃ n9, l9.wait.length = n9 := ⟨_, rfl⟩
                  obtain ⟨p9, hp9⟩ : ∃ p9, l9.peer = p9 := ⟨_, rfl⟩
                  have HPE : Aside0 (∀ n, Calls Try.prog 25 #[.pointer (some ⟨g, 0, none⟩)] (wr.drewN n) fun e w' => e = .returned (.int .i64 p9) ∧ w' = wr.drewN n) := ⟨fun n => by have h := peer_calls _ _ _ _ (wr.drewN n) (HP9.out.drewN n).A; rw [hp9] at h; exact h⟩
                  have HWA : Aside0 (∀ n, Calls Try.prog 12 #[.pointer (some ⟨g, 0, none⟩)] (wr.drewN n) fun e w' => e = .returned (.int .i64 (n9 : Int)) ∧ w' = wr.drewN n) := ⟨fun n => by have h := waiting_calls _ _ _ _ (wr.drewN n) (HP9.out.drewN n).A; rw [hn9] at h; exact h⟩
                  have HWR : Aside0 (∀ n, Calls Try.prog 26 #[.pointer (some ⟨g2, 0, none⟩)] (wr.drewN n) fun e w' => e = .returned (.int .i64 (n9 : Int)) ∧ w' = wr.drewN n) := ⟨fun n => by have h := rwaiting_calls _ _ _ _ (wr.drewN n) (HP9.out.drewN n).B; rw [HR9.out.len, hn9] at h; exact h⟩
                  obtain ⟨_, hpc, _, _, _, _, _, _, _⟩ := HP9.out.B.cells
                  rw [HR9.out.pe, hp9] at hpc
                  clear hn9 hp9
                  have hpp : (p9 != p9) = false := by simp
                  have hnn : ((n9 : Int) != (n9 : Int)) = false := by simp
                  go_wp2
                  go_quiet (first | (go_at_call 25; exact Calls.quiet_of_same (HPE.out _)) | (go_at_call 12; exact Calls.quiet_of_same (HWA.out _)) | (go_at_call 26; exact Calls.quiet_of_same (HWR.out _)) | fail)
                  clear hpc
                  go_wp2
                  go_roundg (l1.length - i)
                  case rel => exact ⟨i + 1, l9, r9, V9, V29, by omega, by omega, by first | go_num | (congr 1; omega) | rfl, by omega, ⟨HP9.out.drewN _⟩, HK9, HR9⟩
                  case measure => omega
      · by_cases hl : i < l1.length
        · have hd1 : decide ((i : Int) < (l1.length : Int)) = true := decide_eq_true (by omega)
          have hd2 : decide ((i : Int) < 200) = false := decide_eq_false (by omega)
          obtain ⟨hRs, hes⟩ := HR.out.outs HK.out
          have hlen := l.outs_len
          have HOK := Aside0.mk (HR.out.ok HK.out)
          obtain ⟨fs, hfs⟩ : ∃ fs, l.outs.2 = fs := ⟨_, rfl⟩
          rw [hfs] at hes hlen
          have HFS := Aside0.mk hfs
          have HES := Aside0.mk hes
          clear hRs hes hfs
          go_wp2_with (go_at_call 16; refine (outs_calls _ _ l V _ HP.out.A HK.out).mono ?_)
          intro e W5 hS
          obtain ⟨v5, rfl, hRv, hA, hO⟩ := hS
          rw [HFS.out] at hRv
          have HQ2 := Aside0.mk (HP.out.deedA hA hO)
          have HRV := Aside0.mk hRv
          clear hA hO hRv
          go_wp2_with (go_at_call 22; refine (rout_calls _ _ r V2 _ HQ2.out.B HOK.out).mono ?_)
          intro e W6 hS
          obtain ⟨v6, rfl, hRv, hB, hOB⟩ := hS
          rw [← HES.out] at hRv
          have HP9a := Aside0.mk (HQ2.out.deedB hB hOB)
          have HRV1 := Aside0.mk (HP.out.rowB rfl (Nat.le_refl _) HRV.out hOB)
          obtain ⟨A5, c5, e5, hc5, hC5⟩ := Kd.R_reads HRV1.out
          obtain ⟨A6, c6, e6, hc6, hC6⟩ := Kd.R_reads hRv
          subst e5
          subst e6
          have HFR : Aside0 (Calls Try.prog 21 #[.slice A5 fs.length c5, .slice A6 fs.length c6] W6 fun e w' => e = .returned (.bool true) ∧ Drawn0 W6 w') := ⟨carillonlaw09_frames.calls 2000 A5 c5 fs A6 c6 fs true W6 hC5 hc5 hC6 hc6 (frames_same fs (by omega))⟩
          clear hRv hB hOB HRV HQ2 HOK HRV1 hC5 hC6 hc5 hc6 HFS HES
          go_wp2_with (go_at_call 21; refine HFR.out.mono ?_)
          rintro e W7 ⟨rfl, hD⟩
          obtain ⟨m7, rfl⟩ := hD.out
          go_wp2
          go_ret
          exact ⟨rfl, (HP9a.out.drewN m7).Bl⟩
        · have hd1 : decide ((i : Int) < (l1.length : Int)) = false := decide_eq_false (by omega)
          obtain ⟨hRs, hes⟩ := HR.out.outs HK.out
          have hlen := l.outs_len
          have HOK := Aside0.mk (HR.out.ok HK.out)
          obtain ⟨fs, hfs⟩ : ∃ fs, l.outs.2 = fs := ⟨_, rfl⟩
          rw [hfs] at hes hlen
          have HFS := Aside0.mk hfs
          have HES := Aside0.mk hes
          clear hRs hes hfs
          go_wp2_with (go_at_call 16; refine (outs_calls _ _ l V _ HP.out.A HK.out).mono ?_)
          intro e W5 hS
          obtain ⟨v5, rfl, hRv, hA, hO⟩ := hS
          rw [HFS.out] at hRv
          have HQ2 := Aside0.mk (HP.out.deedA hA hO)
          have HRV := Aside0.mk hRv
          clear hA hO hRv
          go_wp2_with (go_at_call 22; refine (rout_calls _ _ r V2 _ HQ2.out.B HOK.out).mono ?_)
          intro e W6 hS
          obtain ⟨v6, rfl, hRv, hB, hOB⟩ := hS
          rw [← HES.out] at hRv
          have HP9a := Aside0.mk (HQ2.out.deedB hB hOB)
          have HRV1 := Aside0.mk (HP.out.rowB rfl (Nat.le_refl _) HRV.out hOB)
          obtain ⟨A5, c5, e5, hc5, hC5⟩ := Kd.R_reads HRV1.out
          obtain ⟨A6, c6, e6, hc6, hC6⟩ := Kd.R_reads hRv
          subst e5
          subst e6
          have HFR : Aside0 (Calls Try.prog 21 #[.slice A5 fs.length c5, .slice A6 fs.length c6] W6 fun e w' => e = .returned (.bool true) ∧ Drawn0 W6 w') := ⟨carillonlaw09_frames.calls 2000 A5 c5 fs A6 c6 fs true W6 hC5 hc5 hC6 hc6 (frames_same fs (by omega))⟩
          clear hRv hB hOB HRV HQ2 HOK HRV1 hC5 hC6 hc5 hc6 HFS HES
          go_wp2_with (go_at_call 21; refine HFR.out.mono ?_)
          rintro e W7 ⟨rfl, hD⟩
          obtain ⟨m7, rfl⟩ := hD.out
          go_wp2
          go_ret
          exact ⟨rfl, (HP9a.out.drewN m7).Bl⟩

end Go.Proofs.Ytdpogggajdfedaa.P
