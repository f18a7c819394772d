import Derived.Test.YtdpogggajdfedaaLinkT9
import Derived.Deep.CutBlock
import Derived.Deep.DeepCutAuto
import Derived.Deep.LoopGhost
import Derived.Outline
import Derived.Laws.BitsAllLaws
import Derived.WalkSpells
import Derived.StillTailTactics
namespace Go.Proofs.Ytdpogggajdfedaa.P
open Go.RowKit Go.Proofs.YtdpogggajdfedaaW.PrintWords Go.Proofs.YtdpogggajdfedaaW.PrintLast Go.Proofs.YtdpogggajdfedaaW.PrintMore
attribute [local go_sem] max2_int min2_int max_two min_two max_three min_three max_four min_four
set_option linter.unusedVariables false
set_option linter.unusedSimpArgs false
attribute [local go_sem high] eqA46
def anR.T39 : Bool × List (List Nat × List Nat) := (true, [([], []), ([0], [0]), ([1], [1]), ([2], [2]), ([], []), ([3, 4], [3, 4]), ([5], [5]), ([], []), ([7], [7]), ([6, 8], [6, 8]), ([9], [9]), ([10, 9, 0, 1, 2, 3, 4, 5, 6, 7, 8, 9, 10], [10])])
def anR.B39 : List Nat := [0, 1, 3, 7, 0, 31, 63, 0, 128, 511, 1023, 2047]
theorem anR.tab39 : rtab .any (opsOf Try.f5 39) = anR.T39 := by kernel_rfl
theorem anR.bits39 : waitsOk anR.T39.2 anR.B39 = true := by kernel_rfl
def anR.T41 : Bool × List (List Nat × List Nat) := (true, [([], []), ([0], [0]), ([1], [1]), ([2], [2]), ([], []), ([4], [4]), ([5], [5]), ([6], [6]), ([7], [7]), ([8], [8]), ([], []), ([10], [10]), ([11], [11]), ([9, 12], [9, 12]), ([3, 0, 1, 2, 3, 4, 5, 6, 7, 8, 9, 10, 11, 12, 13], [3]), ([14, 13, 13, 0, 1, 2, 3, 4, 5, 6, 7, 8, 9, 10, 11, 12, 13], [13, 14])])
def anR.B41 : List Nat := [0, 1, 3, 7, 0, 16, 48, 112, 240, 496, 0, 1024, 3072, 8176, 16383, 32767]
theorem anR.tab41 : rtab .any (opsOf Try.f5 41) = anR.T41 := by kernel_rfl
theorem anR.bits41 : waitsOk anR.T41.2 anR.B41 = true := by kernel_rfl
def anR.T45 : Bool × List (List Nat × List Nat) := (true, [([], []), ([0], [0]), ([1], [1]), ([2], [2]), ([], []), ([4], [4]), ([], []), ([6], [6]), ([7], [7]), ([8], [8]), ([], []), ([10], [10]), ([9, 11], [9, 11]), ([12], [12]), ([], []), ([14], [14]), ([15], [15]), ([16], [16]), ([], []), ([17, 18], [17, 18]), ([19], [19]), ([20], [20]), ([13, 21, 21], [13, 21]), ([3, 5, 0, 1, 2, 3, 4, 5, 6, 7, 8, 9, 10, 11, 12, 13, 14, 15, 16, 17, 18, 19, 20, 21, 22], [3, 5]), ([23, 22, 22, 0, 1, 2, 3, 4, 5, 6, 7, 8, 9, 10, 11, 12, 13, 14, 15, 16, 17, 18, 19, 20, 21, 22], [22, 23])])
def anR.B45 : List Nat := [0, 1, 3, 7, 0, 16, 0, 64, 192, 448, 0, 1024, 4032, 8128, 0, 16384, 49152, 114688, 0, 507904, 1032192, 2080768, 4194240, 8388607, 16777215]
theorem anR.tab45 : rtab .any (opsOf Try.f5 45) = anR.T45 := by kernel_rfl
theorem anR.bits45 : waitsOk anR.T45.2 anR.B45 = true := by kernel_rfl
def anR.T27 : Bool × List (List Nat × List Nat) := (true, [([], []), ([0], [0]), ([1], [1]), ([2], [2]), ([], []), ([3, 4], [3, 4]), ([5], [5]), ([], []), ([7], [7]), ([], []), ([9], [9]), ([10], [10]), ([11], [11]), ([], []), ([12, 13], [12, 13]), ([14], [14]), ([15], [15]), ([8, 16], [8, 16]), ([6, 17], [6, 17]), ([18], [18]), ([], []), ([20, 19, 17, 0, 1, 2, 3, 4, 5, 6, 7, 8, 9, 10, 11, 12, 13, 14, 15, 16, 17, 18, 19, 20], [19, 20])])
def anR.B27 : List Nat := [0, 1, 3, 7, 0, 31, 63, 0, 128, 0, 512, 1536, 3584, 0, 15872, 32256, 65024, 130944, 262143, 524287, 0, 2097151]
theorem anR.tab27 : rtab .any (opsOf Try.f5 27) = anR.T27 := by kernel_rfl
theorem anR.bits27 : waitsOk anR.T27.2 anR.B27 = true := by kernel_rfl
def anR.T28 : Bool × List (List Nat × List Nat) := (true, [([], []), ([0], [0]), ([1], [1]), ([2], [2]), ([], []), ([3, 4], [3, 4]), ([5], [5]), ([], []), ([6, 7], [6, 7]), ([8], [8]), ([9], [9]), ([9], [9]), ([10, 8, 0, 1, 2, 3, 4, 5, 6, 7, 8, 9, 10], [10]), ([11, 12, 0, 1, 2, 3, 4, 5, 6, 7, 8, 9, 10, 11, 12], [11])])
def anR.B28 : List Nat := [0, 1, 3, 7, 0, 31, 63, 0, 255, 511, 1023, 1023, 2047, 8191]
theorem anR.tab28 : rtab .any (opsOf Try.f5 28) = anR.T28 := by kernel_rfl
theorem anR.bits28 : waitsOk anR.T28.2 anR.B28 = true := by kernel_rfl
/-- What a Take answers. -/
def TakeQ (w : World) (b n0 g : Nat) (V : Value) (l' : LkS) (bs : List ByteArray) (n : Nat) (rs : Bool) (e : Ending) (w' : World) : Prop :=
  ∃ A c, e = .returned (.tuple #[.slice A n c, .bool rs]) ∧ Kd.string.R 9 w' n0 (fun _ => True) (.slice A n c) bs ∧ ∃ V', LkIs w' b g l' V' ∧ LkOnly w w' g V V'
def carillonlaw09_LinkAnew.f (l0 l1 : List TurnT) : Option Bool :=
  if (l0.all fun x => inB x.f0 && inB x.f1 && inB x.f2) = true ∧ (l1.all fun x => inB x.f0 && inB x.f1 && inB x.f2) = true then some true else none
set_option maxHeartbeats 16000000 in
set_option maxRecDepth 100000 in
theorem carillonlaw09_LinkAnew.calls (A0 : Option Addr) (c0 : Nat) (l0 : List TurnT) (A1 : Option Addr) (c1 : Nat) (l1 : List TurnT) (r : Bool) (w : World) (hr0 : Kd.C k28 w A0 l0.length l0) (hc0 : l0.length ≤ c0) (hr1 : Kd.C k28 w A1 l1.length l1) (hc1 : l1.length ≤ c1) (hr_ : Aside0 (r = true)) (h : carillonlaw09_LinkAnew.f l0 l1 = some r) :
    Calls Try.prog 5 #[.slice A0 l0.length c0, .slice A1 l1.length c1] w fun e w' => e = .returned (.bool r) ∧ Below w.heap.size w w' := by
  obtain rfl := hr_.out
  unfold carillonlaw09_LinkAnew.f at h
  split at h
  case isFalse => exact absurd h (by simp)
  rename_i hi0
  have HI0 := Aside0.mk hi0.1
  have HI1 := Aside0.mk hi0.2
  have HR0 := Aside0.mk hr0
  have HR1 := Aside0.mk hr1
  have hm0 := hr0.2.1
  have hm1 := hr1.2.1
  clear hr0 hr1 hi0 h hr_
  go_enter Try.func5, Try.ntmps5
  go_wp2_with (go_at_call 9; refine (examples_calls w).mono ?_)
  rintro e W1 ⟨rfl, hB1⟩
  have HB1 := Aside0.mk hB1
  clear hB1
  go_wp2_with (go_at_call 10; refine (begin_calls W1).mono ?_)
  rintro e W2 ⟨B0, rfl, hP⟩
  have HP0 := Aside0.mk (hP.base HB1.out)
  obtain ⟨gx, hgx⟩ : ∃ gx, B0.gx = gx := ⟨_, rfl⟩
  rw [hgx]
  clear hP
  go_upto_block 0 with fail
  go_cut [] (fun W => ∃ (x : PaM) (B : PB), B.gx = gx ∧ Aside0 (PairIs w W B x) ∧ Aside0 (InvP 100 x) ∧ Aside0 (InvZ x))
  case first =>
    go_wp2_with fail
    go_loopg [7, 8] (l0.length + 1) (fun kq v7 v8 W => ∃ (i : Nat) (x : PaM) (B : PB), i ≤ l0.length ∧ i ≤ 100 ∧ v7 = .int .i64 (i : Int) ∧ l0.length - i < kq ∧ B.gx = gx ∧ Aside0 (PairIs w W B x) ∧ Aside0 (InvP i x) ∧ Aside0 (InvZ x))
    case atStart => exact ⟨0, PaM.start, B0, Nat.zero_le _, Nat.zero_le _, rfl, by omega, hgx, HP0, ⟨InvP.start⟩, ⟨InvZ.start⟩⟩
    case round =>
      obtain ⟨i, x, B, hi, hi3, rfl, hq, hgB, HX, HI, HZ⟩ := hrel
      clear HP0 hgx
      by_cases hlt : i < l0.length ∧ i < 100
      · obtain ⟨hl, hl3⟩ := hlt
        have hdc : decide ((i : Int) < 100) = true := decide_eq_true (by omega)
        obtain ⟨ad, e0, ht0, ht1, ht2, ht3⟩ := at_T28 (Kd.C_below HR0.out HX.out.two.Bl) (i : Int) (by omega) (by omega)
        cases e0
        have hyb := all_rdT HI0.out i hl
        rw [show ((i : Int)).toNat = i from rfl] at ht0 ht1 ht2 ht3
        have HSC := turn_next (rd_T28 l0 (i : Int)) hyb hgB HX.out HI.out (by omega)
        have HZ5 := Aside0.mk (HZ.out.turn (rd_T28 l0 (i : Int)))
        generalize rd_T28 l0 (i : Int) = y at ht0 ht1 ht2 ht3 HSC HZ5
        obtain ⟨y0, y1, y2, y3⟩ := y
        dsimp only at ht0 ht1 ht2 ht3 HSC
        have HSC1 := Aside0.mk HSC
        clear HSC hyb
        go_wp2_with (go_at_call 11; refine HSC1.out.mono ?_)
        rintro e W5 ⟨rfl, B5, hB5, HX5, HI5⟩
        clear HSC1 HX HI HZ ht0 ht1 ht2 ht3
        go_wp2
        go_roundg (l0.length - i)
        case rel => exact ⟨i + 1, _, B5, by omega, by omega, by first | go_num | (congr 1; omega) | rfl, by omega, hB5, HX5, HI5, HZ5⟩
        case measure => omega
      · by_cases hl : i < l0.length
        · have hd1 : decide ((i : Int) < (l0.length : Int)) = true := decide_eq_true (by omega)
          have hd2 : decide ((i : Int) < 100) = false := decide_eq_false (by omega)
          go_wp2
          go_meet
          case rel => exact ⟨x, B, hgB, HX, ⟨HI.out.mono hi3⟩, HZ⟩
        · have hd1 : decide ((i : Int) < (l0.length : Int)) = false := decide_eq_false (by omega)
          go_wp2
          go_meet
          case rel => exact ⟨x, B, hgB, HX, ⟨HI.out.mono hi3⟩, HZ⟩
  case rest =>
    obtain ⟨x, B, hgB, HX, HI, HZ⟩ := hcut
    clear HP0 hgx
    go_wp2_with (go_at_call 13; refine (new_calls 9 wc).mono ?_)
    rintro e W4 ⟨hb4, hN⟩
    rcases hN with ⟨hbad, _⟩ | ⟨_, g, hg, rfl, hL⟩
    · exact absurd hbad (by decide)
    have HLN := Aside0.mk (hL w.heap.size HX.out.two.Bl.size)
    have HX4 := Aside0.mk (HX.out.below hb4)
    have HQ5 := Aside0.mk (AnIs.start HX.out hb4 hg HLN.out rfl)
    have HI5 : Aside0 (AnI (AnM.start x)) := ⟨.inl (AnA.start HI.out HZ.out)⟩
    have HZ5 : Aside0 (AnZ (100 + 0) (AnM.start x)) := ⟨AnZ.start HI.out⟩
    subst hgB
    obtain ⟨x0, x1, x2, x3, _, _, _, _⟩ := bx4 HX4.out.X
    have l1_ : W4.cell? ⟨B.gl, 1, none⟩ = some (.pointer (some ⟨B.g 1, 0, none⟩)) := HX4.out.at_l 1 (by decide)
    have hfl := blk_frozen HX4.out.L 1
    have v0 := HX4.out.at_s 0 (by decide)
    obtain ⟨As, cs, es, _, _⟩ := Kd.R_reads (HX4.out.s 0 (by decide))
    rw [es] at v0
    obtain ⟨n0, hn0⟩ : ∃ n0, (x.sent 0).length = n0 := ⟨_, rfl⟩
    rw [hn0] at v0
    have hn1 : (AnM.start x).first = n0 := hn0
    clear hL hg hb4 HLN HX HI HZ es hn0
    go_upto_block 2 with fail
    obtain ⟨B5, hB5, HQ6⟩ : ∃ B5 : PB, B5.gx = B.gx ∧ Aside0 (AnIs w (W4.setCell ⟨B.gl, 1, none⟩ (.pointer (some ⟨g, 0, none⟩))) B5 (AnM.start x) (.slice none 0 0) (.slice none 0 0) (.slice none 0 0)) := ⟨_, by rfl, HQ5⟩
    generalize W4.setCell ⟨B.gl, 1, none⟩ (.pointer (some ⟨g, 0, none⟩)) = W5 at HQ6 ⊢
    obtain ⟨gx, hgx⟩ : ∃ gx, B.gx = gx := ⟨_, rfl⟩
    rw [hgx] at hB5
    try rw [hgx]
    obtain ⟨a5, ha5⟩ : ∃ a5, AnM.start x = a5 := ⟨_, rfl⟩
    have hr5 : a5.resets = 0 := by rw [← ha5]; rfl
    rw [ha5] at HQ6 HI5 HZ5 hn1
    clear ha5 HX4 HQ5 x0 x1 x2 x3 l1_ hfl hgx v0
    go_cut [11, 12, 13, 14, 15] (fun v11 v12 v13 v14 v15 W => ∃ (a : AnM) (B : PB) (Vt Vo Vm : Value), v11 = .int .i64 (a.first : Int) ∧ Vt = v12 ∧ v13 = .int .i64 (a.resets : Int) ∧ Vo = v14 ∧ Vm = v15 ∧ B.gx = gx ∧ Aside0 (AnIs w W B a Vt Vo Vm) ∧ Aside0 (AnI a) ∧ Aside0 (AnZ 200 a))
    case first =>
      go_wp2_with fail
      go_loopg [11, 12, 13, 14, 15, 16, 17, 18, 19, 20, 21, 22] (l1.length + 1) (fun kq v11 v12 v13 v14 v15 v16 v17 v18 v19 v20 v21 v22 W => ∃ (i : Nat) (a : AnM) (B : PB) (Vt Vo Vm : Value), i ≤ l1.length ∧ i ≤ 100 ∧ v11 = .int .i64 (a.first : Int) ∧ Vt = v12 ∧ v13 = .int .i64 (a.resets : Int) ∧ Vo = v14 ∧ Vm = v15 ∧ v16 = .int .i64 (i : Int) ∧ l1.length - i < kq ∧ B.gx = gx ∧ Aside0 (AnIs w W B a Vt Vo Vm) ∧ Aside0 (AnI a) ∧ Aside0 (AnZ (100 + i) a))
      case atStart => exact ⟨0, a5, B5, _, _, _, Nat.zero_le _, Nat.zero_le _, by rw [hn1], rfl, by rw [hr5]; rfl, rfl, rfl, rfl, by omega, hB5, HQ6, HI5, HZ5⟩
      case round =>
        obtain ⟨i, a, B, Vt, Vo, Vm, hi, hi3, rfl, rfl, rfl, rfl, rfl, rfl, hq, hgB, HQ, HI, HZ⟩ := hrel
        clear HQ6 HI5 HZ5 hr5 hn1
        obtain ⟨fi, hfi⟩ : ∃ fi, a.first = fi := ⟨_, rfl⟩
        obtain ⟨rz, hrz⟩ : ∃ rz, a.resets = rz := ⟨_, rfl⟩
        have HFI := Aside0.mk hfi
        have HRZ := Aside0.mk hrz
        rw [hfi, hrz]
        have hfb : fi ≤ 200 := by rw [← hfi]; have := HZ.out.first; omega
        have hrb : rz ≤ 1 := by rw [← hrz]; exact HI.out.ends.1
        clear hfi hrz
        by_cases hlt : i < l1.length ∧ i < 100
        · obtain ⟨hl, hl3⟩ := hlt
          have hdc : decide ((i : Int) < 100) = true := decide_eq_true (by omega)
          obtain ⟨ad, e0, ht0, ht1, ht2, ht3⟩ := at_T28 (Kd.C_below HR1.out HQ.out.P.two.Bl) (i : Int) (by omega) (by omega)
          cases e0
          have hyb := all_rdT HI1.out i hl
          rw [show ((i : Int)).toNat = i from rfl] at ht0 ht1 ht2 ht3
          obtain ⟨y, hy⟩ : ∃ y, rd_T28 l1 (i : Int) = y := ⟨_, rfl⟩
          rw [hy] at ht0 ht1 ht2 ht3 hyb
          clear hy
          obtain ⟨t0, t1, t2, t3⟩ := y
          dsimp only at ht0 ht1 ht2 ht3 hyb
          subst hgB
          obtain ⟨pw, hpw⟩ : ∃ pw, pickN t1 2 = pw := ⟨_, rfl⟩
          obtain ⟨kd, hkd⟩ : ∃ kd, pickN t0 4 = kd := ⟨_, rfl⟩
          have hw2 : pw < 2 := by rw [← hpw]; exact pickN_lt t1 2 (by decide)
          have hk4 : kd < 4 := by rw [← hkd]; exact pickN_lt t0 4 (by decide)
          obtain ⟨po, hpo⟩ : ∃ po, 1 - pw = po := ⟨_, rfl⟩
          have ho2 : po < 2 := by omega
          have HPO := Aside0.mk hpo
          have HP1 := Aside0.mk (fun W => pick_calls t1 2 W hyb.2.1 (by decide) (by decide))
          have HP0 := Aside0.mk (fun W => pick_calls t0 4 W hyb.1 (by decide) (by decide))
          simp only [hpw] at HP1
          simp only [hkd] at HP0
          have hpoI : (1 : Int) - (pw : Int) = (po : Int) := by omega
          have HYB := Aside0.mk hyb
          clear hyb hpw hkd hpo
          have HX0 : Aside0 (KeepB wr wr.heap.size #[.int .i64 t0, .int .i64 t1, .int .i64 t2, .string t3] (wr.alloc (.cells #[.int .i64 t0, .int .i64 t1, .int .i64 t2, .string t3] 28))) := ⟨⟨heap_alloc_new wr (.cells #[.int .i64 t0, .int .i64 t1, .int .i64 t2, .string t3] 28), fun _ _ e => blk_alloc e _⟩⟩
          have HQ0 := Aside0.mk (HQ.out.alloc (.cells #[.int .i64 t0, .int .i64 t1, .int .i64 t2, .string t3] 28))
          clear HQ
          obtain ⟨b3, hb3⟩ : ∃ b3, wr.heap.size = b3 := ⟨_, rfl⟩
          rw [hb3] at HX0
          go_wp2_with (go_at_call 14; refine (HP1.out _).mono ?_)
          rintro e W3 ⟨rfl, m1, rfl⟩
          try rw [hb3]
          clear hb3 ht0 ht1 ht2 ht3
          have HX1 := Aside0.mk (HX0.out.drewN m1)
          have HQ1 := Aside0.mk (HQ0.out.drewN m1)
          generalize (wr.alloc (.cells #[.int .i64 t0, .int .i64 t1, .int .i64 t2, .string t3] 28)).drewN m1 = W3 at HX1 HQ1 ⊢
          clear HX0 HQ0 HP1
          obtain ⟨z0, z1, z2, z3, _, _, _, _⟩ := bx4 HX1.out.D
          go_wp2_with (go_at_call 14; refine (HP0.out _).mono ?_)
          rintro e W2_ ⟨rfl, m2, rfl⟩
          have HX2 := Aside0.mk (HX1.out.drewN m2)
          have HQ2 := Aside0.mk (HQ1.out.drewN m2)
          generalize W3.drewN m2 = W2 at HX2 HQ2 ⊢
          clear HX1 HQ1 HP0 z0 z1 z2 z3
          have hpI : (pw : Int) < 2 := by omega
          have hpI0 : (0 : Int) ≤ (pw : Int) := by omega
          have hoI : (po : Int) < 2 := by omega
          have hoI0 : (0 : Int) ≤ (po : Int) := by omega
          have hib : i ≤ 99 := by omega
          by_cases hk : kd = 0
          case pos =>
            as_aux_lemma =>
              have hk0 : ((kd : Int) == 0) = true := beq_iff_eq.mpr (by omega)
              obtain ⟨er, her⟩ : ∃ er, ((a.x.l pw).send t3).2 = er := ⟨_, rfl⟩
              have HER := Aside0.mk her
              have HC : Aside0 (∀ W, AnIs w W B a Vt Vo Vm → Calls Try.prog 15 #[.pointer (some ⟨B.g pw, 0, none⟩), .string t3] W fun e w' => e = .returned (.int .i64 er) ∧ ∃ V', LkIs w' w.heap.size (B.g pw) ((a.x.l pw).send t3).1 V' ∧ LkOnly W w' (B.g pw) (B.V pw) V') := ⟨fun W h => by have := send_calls _ _ _ _ t3 W (h.P.lk pw hw2) (HI.out.c.ok pw hw2).w; rw [her] at this; exact this⟩
              clear her hpoI hoI hoI0
              go_wp2
              have HQd := Aside0.mk HQ2.out.drew
              have HXd := Aside0.mk (HX2.out.drew)
              refine start_ (n := 12) (S := fun W => PairS W B b3 #[.int .i64 t0, .int .i64 t1, .int .i64 t2, .string t3]) (ds := []) (bz 12 0) (by kernel_rfl) rfl rfl (PairS.of HQd.out.P HXd.out.D) (fun hHeld => ?_); refine with_tabW anR.tab39 anR.bits39 (fun HT_ HW_ => ?_)
              generalize W2.drew = W3 at hHeld HQd HXd ⊢
              refine pu_ 0 (some 155) (bz 12 1) HT_.out ?_
              refine pu_ 1 (some 156) (bz 12 3) HT_.out ?_
              refine pu_ 2 (some 157) (bz 12 7) HT_.out ?_
              refine pu_ 4 (some 159) (bz 12 23) HT_.out ?_
              refine pu_ 7 (some 162) (bz 12 151) HT_.out ?_
              refine take_ (i := 3) (N := (some 158)) (v := ?_) (a' := ?_) (bz 12 159) rfl rfl (take_ofW HT_.out HW_.out (by kernel_rfl)) (fun _ _ _ h => h) (Or.inl ⟨by rfl, ?_⟩) hHeld ?_ ?_
              rotate_left
              · rintro w' s0
                obtain ⟨x0, x1, x2, x3, _, _, _, _⟩ := bx4 s0.X
                go_simp
                with_reducible rfl
              rotate_left
              · simp only [Act.put, sl1, sl2, sl3, i64_w, i32_w]
                rfl
              refine pu_ 5 (some 160) (bz 12 191) HT_.out ?_
              refine take_ (i := 6) (N := (some 161)) (v := ?_) (a' := ?_) (bz 12 255) rfl rfl (take_ofW HT_.out HW_.out (by kernel_rfl)) (fun _ _ _ h => h) (Or.inl ⟨by rfl, ?_⟩) hHeld ?_ ?_
              rotate_left
              · rintro w' s0
                have y0 := s0.at_l pw hw2
                go_simp
                with_reducible rfl
              rotate_left
              · simp only [Act.put, sl1, sl2, sl3, i64_w, i32_w]
                rfl
              refine take_ (i := 8) (N := (some 163)) (v := ?_) (a' := ?_) (bz 12 511) rfl rfl (take_ofW HT_.out HW_.out (by kernel_rfl)) (fun _ _ _ h => h) (Or.inl ⟨by rfl, ?_⟩) hHeld ?_ ?_
              rotate_left
              · rintro w' s0
                obtain ⟨d0, d1, d2, d3, _, _, _, _⟩ := bx4 s0.D
                go_simp
                with_reducible rfl
              rotate_left
              · simp only [Act.put, sl1, sl2, sl3, i64_w, i32_w]
                rfl
              refine one_ (i := 9) (N := (some 164)) (bz 12 1023) rfl rfl (one_of HT_.out (by kernel_rfl)) (by decide) (fun K hK => ?_)
              refine goes_ Try.func15 (by kernel_rfl) rfl #[.pointer (some ⟨B.g pw, 0, none⟩), .string t3] (by rfl) rfl rfl am ?_
              refine (HC.out _ HQd.out).mono ?_
              rintro e w1 ⟨rfl, V1, hA, hO⟩
              refine ⟨_, rfl, ?_⟩
              have HQ4 := Aside0.mk (HQd.out.deed pw hw2 hA hO)
              have HX4 := Aside0.mk (HXd.out.deed hO (HQd.out.P.lk pw hw2))
              refine hK.out _ _ ⟨HQ4.out.P.X, HQ4.out.P.L, HQ4.out.P.Y, HQ4.out.P.S, HQ4.out.P.T, HX4.out.D⟩ (fun hHeld => ?_)
              clear hK K
              refine norm_ (a' := ?_) ?_ ?_
              rotate_left
              · show Act.put _ (some 164) _ = _
                simp only [Act.put, sl1, sl2, sl3, i64_w, i32_w]
                rfl
              refine pu_ 10 (some 165) (bz 12 2047) HT_.out ?_
              refine pu_ 11 (some 19) (bz 12 4095) HT_.out ?_
              refine done_ (done_of HT_.out (by kernel_rfl)) ?_
              clear HT_ HW_ hHeld hA hO HQd HXd HC HQ2 HX2
              by_cases hs : er = 0
              case neg =>
                have her0 : (er == 0) = false := beq_eq_false_iff_ne.mpr hs
                have HE : Aside0 (a.sendA pw t3 = _) := ⟨sendA_no (by rw [HER.out]; exact hs)⟩
                clear hs
                obtain ⟨a9, ha9, HQ9⟩ : ∃ a9, a.sendA pw t3 = a9 ∧ Aside0 (AnIs w (w1) ({ B with V := upd B.V pw V1 }) a9 (Vt) (Vo) (Vm)) := ⟨_, rfl, ⟨by rw [HE.out]; exact HQ4.out⟩⟩
                have HI9 : Aside0 (AnI a9) := ⟨by rw [← ha9]; exact HI.out.send hw2 t3⟩
                have HZ9 : Aside0 (AnZ (100 + (i + 1)) a9) := ⟨by rw [← ha9]; exact HZ.out.send pw t3⟩
                have h11 : a9.first = fi := by rw [← ha9]; exact HFI.out
                have h13 : a9.resets = rz := by rw [← ha9]; exact HRZ.out
                clear ha9
                go_wp2
                go_roundg (l1.length - i)
                case rel => exact ⟨i + 1, a9, _, _, _, _, by omega, by omega, by first | rw [h11] | (rw [h11]; go_num), rfl, by first | (rw [h13]; done) | (rw [h13]; rfl) | (rw [h13]; go_num), rfl, rfl, by first | go_num | (congr 1; omega) | rfl, by omega, by rfl, HQ9, HI9, HZ9⟩
                case measure => omega
              case pos =>
                have her0 : (er == 0) = true := beq_iff_eq.mpr hs
                subst hs
                rcases two01 hw2 with hpe | hpe
                · have hp0 : ((pw : Int) == 0) = true := beq_iff_eq.mpr (by omega)
                  have hp1 : ((pw : Int) == 1) = false := beq_eq_false_iff_ne.mpr (by omega)
                  have HE : Aside0 (a.sendA pw t3 = { a with x := { a.x with l := upd a.x.l pw ((a.x.l pw).send t3).1, sent := upd a.x.sent 0 (a.x.sent 0 ++ [t3]) } }) := ⟨by have h := HER.out; subst hpe; exact sendA_0 h⟩
                  clear hpe
                  go_wp2
                  have HQ5 := Aside0.mk HQ4.out.drew
                  have HX5 := Aside0.mk (HX4.out.drew)
                  refine start_ (n := 16) (S := fun W => PairS W { B with V := upd B.V pw V1 } b3 #[.int .i64 t0, .int .i64 t1, .int .i64 t2, .string t3]) (ds := [15]) (bz 16 0) (by kernel_rfl) rfl rfl (PairS.of HQ5.out.P HX5.out.D) (fun hHeld => ?_); refine with_tabW anR.tab41 anR.bits41 (fun HT_ HW_ => ?_)
                  generalize World.drew _ = W5 at hHeld HQ5 HX5 ⊢
                  refine pu_ 0 (some 171) (bz 16 1) HT_.out ?_
                  refine pu_ 1 (some 172) (bz 16 3) HT_.out ?_
                  refine pu_ 2 (some 173) (bz 16 7) HT_.out ?_
                  refine pu_ 4 (some 175) (bz 16 23) HT_.out ?_
                  refine pu_ 5 (some 176) (bz 16 55) HT_.out ?_
                  refine pu_ 6 (some 177) (bz 16 119) HT_.out ?_
                  refine pu_ 10 (some 181) (bz 16 1143) HT_.out ?_
                  refine take_ (i := 3) (N := (some 174)) (v := ?_) (a' := ?_) (bz 16 1151) rfl rfl (take_ofW HT_.out HW_.out (by kernel_rfl)) (fun _ _ _ h => h) (Or.inl ⟨by rfl, ?_⟩) hHeld ?_ ?_
                  rotate_left
                  · rintro w' s0
                    obtain ⟨x0, x1, x2, x3, _, _, _, _⟩ := bx4 s0.X
                    go_simp
                    with_reducible rfl
                  rotate_left
                  · simp only [Act.put, sl1, sl2, sl3, i64_w, i32_w]
                    rfl
                  refine take_ (i := 7) (N := (some 178)) (v := ?_) (a' := ?_) (bz 16 1279) rfl rfl (take_ofW HT_.out HW_.out (by kernel_rfl)) (fun _ _ _ h => h) (Or.inl ⟨by rfl, ?_⟩) hHeld ?_ ?_
                  rotate_left
                  · rintro w' s0
                    obtain ⟨x0, x1, x2, x3, _, _, _, _⟩ := bx4 s0.X
                    go_simp
                    with_reducible rfl
                  rotate_left
                  · simp only [Act.put, sl1, sl2, sl3, i64_w, i32_w]
                    rfl
                  refine pu_ 8 (some 179) (bz 16 1535) HT_.out ?_
                  refine take_ (i := 9) (N := (some 180)) (v := ?_) (a' := ?_) (bz 16 2047) rfl rfl (take_ofW HT_.out HW_.out (by kernel_rfl)) (fun _ _ _ h => h) (Or.inl ⟨by rfl, ?_⟩) hHeld ?_ ?_
                  rotate_left
                  · rintro w' s0
                    have y0 := s0.at_s 0 (by decide)
                    go_simp
                    with_reducible rfl
                  rotate_left
                  · simp only [Act.put, sl1, sl2, sl3, i64_w, i32_w]
                    rfl
                  refine take_ (i := 11) (N := (some 182)) (v := ?_) (a' := ?_) (bz 16 4095) rfl rfl (take_ofW HT_.out HW_.out (by kernel_rfl)) (fun _ _ _ h => h) (Or.inl ⟨by rfl, ?_⟩) hHeld ?_ ?_
                  rotate_left
                  · rintro w' s0
                    obtain ⟨d0, d1, d2, d3, _, _, _, _⟩ := bx4 s0.D
                    go_simp
                    with_reducible rfl
                  rotate_left
                  · simp only [Act.put, sl1, sl2, sl3, i64_w, i32_w]
                    rfl
                  refine one_ (i := 12) (N := (some 183)) (bz 16 8191) rfl rfl (one_of HT_.out (by kernel_rfl)) (by decide) (fun K hK => ?_)
                  refine value_ (w1 := ?_) (v := ?_) (by rfl) rfl ?_ ?_
                  rotate_left 2
                  · go_simp
                    constructor
                    · rfl
                    · rfl
                  refine hK.out _ _ (hHeld.alloc _) (fun hHeld => ?_)
                  clear hK K
                  refine norm_ (a' := ?_) ?_ ?_
                  rotate_left
                  · show Act.put _ (some 183) _ = _
                    simp only [Act.put, sl1, sl2, sl3, i64_w, i32_w]
                    rfl
                  refine one_ (i := 13) (N := (some 184)) (bz 16 16383) rfl rfl (one_of HT_.out (by kernel_rfl)) (by decide) (fun K hK => ?_)
                  refine Kd.R_append_step Kd.string (w0 := w) w.heap.size (by rfl) (.tmp 180) (.tmp 183) 36 9 (.string ⟨#[]⟩) 16 rfl Try.underlying36 infoS rfl (by decide) (by omega) (B.sv 0) (a.x.sent 0) t3 [.string t3] (fun _ => True) (fun _ => False) rfl rfl ?aP1 (fun _ hk => hk.elim) ?aF1 ?aO1 ?aB1 ?aS1 ?aL1 ?_
                  case aP1 => exact rfl
                  case aF1 => exact (fun _ _ => trivial)
                  case aO1 => exact HQ5.out.P.s 0 (by decide)
                  case aB1 => exact HQ5.out.P.two.Bl
                  case aS1 => exact HQ5.out.P.two.Bl.size
                  case aL1 => have := HZ.out.sent; omega
                  intro v1 w6 ho hb hg hat
                  obtain ⟨Av, cv, ev⟩ := Kd.R_slice ho
                  rw [List.length_append, List.length_singleton] at ev
                  subst ev
                  obtain ⟨hsl, hsf⟩ := slot_at (i := 0) HQ5.out.P.S hg (Kd.R_ne (HQ5.out.P.s 0 (by decide)) HQ5.out.P.S (by decide)) (by decide)
                  have HSF := Aside0.mk (HQ5.out.sent_grew 0 (by decide) ho (Only.rowOf hg) (hat_of hat))
                  refine hK.out _ _ ((PairS.of HQ5.out.P HX5.out.D).row (HQ5.out.P.s 0 (by decide)) hg (.inl rfl)) (fun hHeld => ?_)
                  clear hK K
                  refine norm_ (a' := ?_) ?_ ?_
                  rotate_left
                  · show Act.put _ (some 184) _ = _
                    simp only [Act.put, sl1, sl2, sl3, i64_w, i32_w]
                    rfl
                  refine pu_ 14 (some 185) (bz 16 32767) HT_.out ?_
                  refine last_ (i := 15) (N := none) (bz 16 65535) rfl rfl (one_of HT_.out (by kernel_rfl)) (by decide) (fun K hK => ?_)
                  refine skip_ (w1 := ?_) (by rfl) rfl ?_ ?_
                  rotate_left
                  · go_simp
                    rfl
                  refine hK.out _ _ ?_
                  clear hK K
                  refine done_ (done_of HT_.out (by kernel_rfl)) ?_
                  clear HT_ HW_ hsl hsf ho hb hg hat HQ5 HX5 HQ4 HX4
                  generalize hWs : World.setCell _ _ _ = W9 at HSF ⊢
                  clear hWs
                  obtain ⟨a9, ha9, HQ9⟩ : ∃ a9, a.sendA pw t3 = a9 ∧ Aside0 (AnIs w (W9) (_) a9 (Vt) (Vo) (Vm)) := ⟨_, rfl, ⟨by rw [HE.out]; exact HSF.out⟩⟩
                  have HI9 : Aside0 (AnI a9) := ⟨by rw [← ha9]; exact HI.out.send hw2 t3⟩
                  have HZ9 : Aside0 (AnZ (100 + (i + 1)) a9) := ⟨by rw [← ha9]; exact HZ.out.send pw t3⟩
                  have h11 : a9.first = fi := by rw [← ha9]; exact HFI.out
                  have h13 : a9.resets = rz := by rw [← ha9]; exact HRZ.out
                  clear ha9
                  go_wp2
                  go_roundg (l1.length - i)
                  case rel => exact ⟨i + 1, a9, _, _, _, _, by omega, by omega, by first | rw [h11] | (rw [h11]; go_num), rfl, by first | (rw [h13]; done) | (rw [h13]; rfl) | (rw [h13]; go_num), rfl, rfl, by first | go_num | (congr 1; omega) | rfl, by omega, by rfl, HQ9, HI9, HZ9⟩
                  case measure => omega
                · have hp0 : ((pw : Int) == 0) = false := beq_eq_false_iff_ne.mpr (by omega)
                  have hp1 : ((pw : Int) == 1) = true := beq_iff_eq.mpr (by omega)
                  have HE : Aside0 (a.sendA pw t3 = { a with x := { a.x with l := upd a.x.l pw ((a.x.l pw).send t3).1 }, own := a.own ++ [t3] }) := ⟨by have h := HER.out; subst hpe; exact sendA_1 h⟩
                  clear hpe
                  obtain ⟨d0, d1, d2, d3, _, _, _, _⟩ := bx4 HX4.out.D
                  go_wp2_with ((with_reducible refine gate_builtin (b := .append) (xs := #[.tmp 191, .tmp 194]) rfl ?_); at_builtin; refine Kd.R_append Kd.string (w0 := w) w.heap.size rfl (.tmp 191) (.tmp 194) 36 9 (.string ⟨#[]⟩) 16 rfl Try.underlying36 infoS rfl (by decide) (by omega) Vo a.own t3 [.string t3] (fun _ => True) (fun _ => False) rfl rfl ?aP2 (fun _ hk => hk.elim) ?aF2 ?aO2 ?aB2 ?aS2 ?aL2 ?_)
                  case aP2 => exact rfl
                  try (case aF2 => exact (fun _ _ => trivial))
                  case aO2 => exact HQ4.out.o
                  case aB2 => exact HQ4.out.P.two.Bl
                  case aS2 => exact HQ4.out.P.two.Bl.size
                  case aL2 => have := HZ.out.own; omega
                  intro v1 w6 ho hb hg hat
                  have HQ6 := Aside0.mk (HQ4.out.own_ ho (Only.rowOf hg) (hat_of hat))
                  clear ho hb hg hat d0 d1 d2 d3 HQ4 HX4
                  obtain ⟨a9, ha9, HQ9⟩ : ∃ a9, a.sendA pw t3 = a9 ∧ Aside0 (AnIs w (w6) (_) a9 (Vt) (v1) (Vm)) := ⟨_, rfl, ⟨by rw [HE.out]; exact HQ6.out⟩⟩
                  have HI9 : Aside0 (AnI a9) := ⟨by rw [← ha9]; exact HI.out.send hw2 t3⟩
                  have HZ9 : Aside0 (AnZ (100 + (i + 1)) a9) := ⟨by rw [← ha9]; exact HZ.out.send pw t3⟩
                  have h11 : a9.first = fi := by rw [← ha9]; exact HFI.out
                  have h13 : a9.resets = rz := by rw [← ha9]; exact HRZ.out
                  clear ha9
                  go_wp2
                  go_roundg (l1.length - i)
                  case rel => exact ⟨i + 1, a9, _, _, _, _, by omega, by omega, by first | rw [h11] | (rw [h11]; go_num), rfl, by first | (rw [h13]; done) | (rw [h13]; rfl) | (rw [h13]; go_num), rfl, rfl, by first | go_num | (congr 1; omega) | rfl, by omega, by rfl, HQ9, HI9, HZ9⟩
                  case measure => omega
          by_cases hk_ : kd = 1
          case pos =>
            as_aux_lemma =>
              have hk0 : ((kd : Int) == 0) = false := beq_eq_false_iff_ne.mpr (by omega)
              have hk1 : ((kd : Int) == 1) = true := beq_iff_eq.mpr (by omega)
              have hpo64 : wrap64 (po : Int) = (po : Int) := by unfold wrap64; omega
              have HC : Aside0 (∀ W, AnIs w W B a Vt Vo Vm → Calls Try.prog 16 #[.pointer (some ⟨B.g pw, 0, none⟩)] W (OutPost W w.heap.size (B.g pw) (B.V pw) (a.x.l pw).outs)) := ⟨fun W h => outs_calls _ _ _ _ W (h.P.lk pw hw2) (HI.out.c.ok pw hw2)⟩
              go_wp2
              have HQd := Aside0.mk HQ2.out.drew
              have HXd := Aside0.mk (HX2.out.drew)
              refine start_ (n := 25) (S := fun W => PairS W B b3 #[.int .i64 t0, .int .i64 t1, .int .i64 t2, .string t3]) (ds := [24]) (bz 25 0) (by kernel_rfl) rfl rfl (PairS.of HQd.out.P HXd.out.D) (fun hHeld => ?_); refine with_tabW anR.tab45 anR.bits45 (fun HT_ HW_ => ?_)
              generalize W2.drew = W3 at hHeld HQd HXd ⊢
              refine pu_ 0 (some 198) (bz 25 1) HT_.out ?_
              refine pu_ 1 (some 199) (bz 25 3) HT_.out ?_
              refine pu_ 2 (some 200) (bz 25 7) HT_.out ?_
              refine pu_ 4 (some 202) (bz 25 23) HT_.out ?_
              refine pu_ 5 (some 203) (bz 25 55) HT_.out ?_
              refine pu_ 6 (some 204) (bz 25 119) HT_.out ?_
              refine pu_ 7 (some 205) (bz 25 247) HT_.out ?_
              refine pu_ 8 (some 206) (bz 25 503) HT_.out ?_
              refine pu_ 10 (some 208) (bz 25 1527) HT_.out ?_
              refine pu_ 11 (some 209) (bz 25 3575) HT_.out ?_
              refine pu_ 14 (some 212) (bz 25 19959) HT_.out ?_
              refine pu_ 15 (some 213) (bz 25 52727) HT_.out ?_
              refine pu_ 16 (some 214) (bz 25 118263) HT_.out ?_
              refine pu_ 18 (some 216) (bz 25 380407) HT_.out ?_
              refine take_ (i := 3) (N := (some 201)) (v := ?_) (a' := ?_) (bz 25 380415) rfl rfl (take_ofW HT_.out HW_.out (by kernel_rfl)) (fun _ _ _ h => h) (Or.inl ⟨by rfl, ?_⟩) hHeld ?_ ?_
              rotate_left
              · rintro w' s0
                obtain ⟨x0, x1, x2, x3, _, _, _, _⟩ := bx4 s0.X
                go_simp
                with_reducible rfl
              rotate_left
              · simp only [Act.put, sl1, sl2, sl3, i64_w, i32_w]
                rfl
              refine take_ (i := 9) (N := (some 207)) (v := ?_) (a' := ?_) (bz 25 380927) rfl rfl (take_ofW HT_.out HW_.out (by kernel_rfl)) (fun _ _ _ h => h) (Or.inl ⟨by rfl, ?_⟩) hHeld ?_ ?_
              rotate_left
              · rintro w' s0
                obtain ⟨x0, x1, x2, x3, _, _, _, _⟩ := bx4 s0.X
                go_simp
                with_reducible rfl
              rotate_left
              · simp only [Act.put, sl1, sl2, sl3, i64_w, i32_w]
                rfl
              refine pu_ 12 (some 210) (bz 25 385023) HT_.out ?_
              refine take_ (i := 13) (N := (some 211)) (v := ?_) (a' := ?_) (bz 25 393215) rfl rfl (take_ofW HT_.out HW_.out (by kernel_rfl)) (fun _ _ _ h => h) (Or.inl ⟨by rfl, ?_⟩) hHeld ?_ ?_
              rotate_left
              · rintro w' s0
                have y0 := s0.at_w po ho2
                go_simp
                with_reducible rfl
              rotate_left
              · simp only [Act.put, sl1, sl2, sl3, i64_w, i32_w]
                rfl
              refine take_ (i := 17) (N := (some 215)) (v := ?_) (a' := ?_) (bz 25 524287) rfl rfl (take_ofW HT_.out HW_.out (by kernel_rfl)) (fun _ _ _ h => h) (Or.inl ⟨by rfl, ?_⟩) hHeld ?_ ?_
              rotate_left
              · rintro w' s0
                obtain ⟨x0, x1, x2, x3, _, _, _, _⟩ := bx4 s0.X
                go_simp
                with_reducible rfl
              rotate_left
              · simp only [Act.put, sl1, sl2, sl3, i64_w, i32_w]
                rfl
              refine pu_ 19 (some 217) (bz 25 1048575) HT_.out ?_
              refine take_ (i := 20) (N := (some 218)) (v := ?_) (a' := ?_) (bz 25 2097151) rfl rfl (take_ofW HT_.out HW_.out (by kernel_rfl)) (fun _ _ _ h => h) (Or.inl ⟨by rfl, ?_⟩) hHeld ?_ ?_
              rotate_left
              · rintro w' s0
                have y0 := s0.at_l pw hw2
                go_simp
                with_reducible rfl
              rotate_left
              · simp only [Act.put, sl1, sl2, sl3, i64_w, i32_w]
                rfl
              refine one_ (i := 21) (N := (some 219)) (bz 25 4194303) rfl rfl (one_of HT_.out (by kernel_rfl)) (by decide) (fun K hK => ?_)
              refine goes_ Try.func16 (by kernel_rfl) rfl #[.pointer (some ⟨B.g pw, 0, none⟩)] (by rfl) rfl rfl am ?_
              refine (HC.out _ HQd.out).mono ?_
              rintro e w1 ⟨v1, rfl, hR, hA, hO⟩
              refine ⟨_, rfl, ?_⟩
              have HQ4 := Aside0.mk (HQd.out.deed pw hw2 hA hO)
              have HX4 := Aside0.mk (HXd.out.deed hO (HQd.out.P.lk pw hw2))
              obtain ⟨Ao, co, eo, hco, hCo⟩ := Kd.R_reads hR
              subst eo
              have HCO := Aside0.mk hCo
              refine hK.out _ _ ⟨HQ4.out.P.X, HQ4.out.P.L, HQ4.out.P.Y, HQ4.out.P.S, HQ4.out.P.T, HX4.out.D⟩ (fun hHeld => ?_)
              clear hK K
              refine norm_ (a' := ?_) ?_ ?_
              rotate_left
              · show Act.put _ (some 219) _ = _
                simp only [Act.put, sl1, sl2, sl3, i64_w, i32_w]
                rfl
              refine one_ (i := 22) (N := (some 220)) (bz 25 8388607) rfl rfl (one_of HT_.out (by kernel_rfl)) (by decide) (fun K hK => ?_)
              refine Kd.R_append_rows_step kF (Rr := kF.K w1) (w0 := w) w.heap.size (by rfl) (.tmp 211) (.tmp 219) 30 46 (.agg #[.int .i64 0, .int .i64 0, .int .i64 0, .int .i64 0, .string ⟨#[]⟩]) 48 rfl Try.underlying30 infoF rfl (by decide) (by omega) (B.wv po) (a.x.way po) (a.x.l pw).outs.2 Ao (a.x.l pw).outs.2.length co (fun _ => True) (fun _ => False) rfl rfl ?aO3 ?aR3 (fun _ _ h => kF_KM h) (fun _ h => h.elim) ?aF3 ?aB3 ?aS3 ?aL3 ?_
              case aR3 => exact HCO.out
              case aF3 => exact (fun _ _ => trivial)
              case aO3 => exact HQ4.out.P.y po ho2
              case aB3 => exact HQ4.out.P.two.Bl
              case aS3 => exact HQ4.out.P.two.Bl.size
              case aL3 => have h1_ := HZ.out.way po ho2; have h2_ := (a.x.l pw).outs_len; omega
              intro v2 w6 ho hb hg hat
              obtain ⟨Av, cv, ev⟩ := Kd.R_slice ho
              obtain ⟨nv, hnv⟩ : ∃ nv, (a.x.way po ++ (a.x.l pw).outs.2).length = nv := ⟨_, rfl⟩
              rw [hnv] at ev
              subst ev
              obtain ⟨hsl, hsf⟩ := slot_at HQ4.out.P.Y hg (Kd.R_ne (HQ4.out.P.y po ho2) HQ4.out.P.Y (by decide)) ho2
              have HSF := Aside0.mk (HQ4.out.way_grew po ho2 ho (Only.rowOf hg) (hat_of hat))
              clear hnv
              refine hK.out _ _ ((PairS.of HQ4.out.P HX4.out.D).row (HQ4.out.P.y po ho2) hg (.inr rfl)).cast (fun hHeld => ?_)
              clear hK K
              refine norm_ (a' := ?_) ?_ ?_
              rotate_left
              · show Act.put _ (some 220) _ = _
                simp only [Act.put, sl1, sl2, sl3, i64_w, i32_w]
                rfl
              refine pu_ 23 (some 221) (bz 25 16777215) HT_.out ?_
              refine last_ (i := 24) (N := none) (bz 25 33554431) rfl rfl (one_of HT_.out (by kernel_rfl)) (by decide) (fun K hK => ?_)
              refine skip_ (w1 := ?_) (by rfl) rfl ?_ ?_
              rotate_left
              · go_simp
                rfl
              refine hK.out _ _ ?_
              clear hK K
              refine done_ (done_of HT_.out (by kernel_rfl)) ?_
              clear HT_ HW_ hHeld hA hO hsl hsf ho hb hg hat HQ4 HX4 HCO HQd HXd HQ2 HX2
              have HE : Aside0 (a.outA pw = { a with x := { a.x with l := upd a.x.l pw (a.x.l pw).outs.1, way := upd a.x.way po (a.x.way po ++ (a.x.l pw).outs.2) } }) := ⟨by unfold AnM.outA PaM.outM; rw [HPO.out]⟩
              generalize hWs : World.setCell _ _ _ = W9 at HSF ⊢
              clear hWs
              obtain ⟨a9, ha9, HQ9⟩ : ∃ a9, a.outA pw = a9 ∧ Aside0 (AnIs w (W9) (_) a9 (Vt) (Vo) (Vm)) := ⟨_, rfl, ⟨by rw [HE.out]; exact HSF.out⟩⟩
              have HI9 : Aside0 (AnI a9) := ⟨by rw [← ha9]; exact HI.out.out hw2⟩
              have HZ9 : Aside0 (AnZ (100 + (i + 1)) a9) := ⟨by rw [← ha9]; exact HZ.out.out pw⟩
              have h11 : a9.first = fi := by rw [← ha9]; exact HFI.out
              have h13 : a9.resets = rz := by rw [← ha9]; exact HRZ.out
              clear ha9
              go_wp2
              go_roundg (l1.length - i)
              case rel => exact ⟨i + 1, a9, _, _, _, _, by omega, by omega, by first | rw [h11] | (rw [h11]; go_num), rfl, by first | (rw [h13]; done) | (rw [h13]; rfl) | (rw [h13]; go_num), rfl, rfl, by first | go_num | (congr 1; omega) | rfl, by omega, by rfl, HQ9, HI9, HZ9⟩
              case measure => omega
          by_cases hk__ : kd = 2
          case pos =>
            as_aux_lemma =>
              have hk0 : ((kd : Int) == 0) = false := beq_eq_false_iff_ne.mpr (by omega)
              have hk1 : ((kd : Int) == 1) = false := beq_eq_false_iff_ne.mpr (by omega)
              have hk2 : ((kd : Int) == 2) = true := beq_iff_eq.mpr (by omega)
              obtain ⟨x0, x1, x2, x3, _, _, _, _⟩ := bx4 HQ2.out.P.X
              have hp := HQ2.out.P.at_l pw hw2
              have HC : Aside0 (∀ W, AnIs w W B a Vt Vo Vm → Calls Try.prog 17 #[.pointer (some ⟨B.g pw, 0, none⟩)] W fun e w' => e = .returned (.tuple #[]) ∧ LkIs w' w.heap.size (B.g pw) (a.x.l pw).tick (B.V pw) ∧ LkOnly W w' (B.g pw) (B.V pw) (B.V pw)) := ⟨fun W h => tick_calls _ _ _ _ W (h.P.lk pw hw2) (HI.out.c.ok pw hw2)⟩
              go_wp2_with (go_at_call 17; refine (HC.out _ HQ2.out).mono ?_)
              rintro e W9 ⟨rfl, hA, hO⟩
              have HQ4 := Aside0.mk (HQ2.out.deed pw hw2 hA hO)
              clear hA hO HQ2 HX2 HC x0 x1 x2 x3 hp
              obtain ⟨a9, ha9, HQ9⟩ : ∃ a9, a.tickA pw = a9 ∧ Aside0 (AnIs w (W9) (_) a9 (Vt) (Vo) (Vm)) := ⟨_, rfl, ⟨by exact HQ4.out⟩⟩
              have HI9 : Aside0 (AnI a9) := ⟨by rw [← ha9]; exact HI.out.tick hw2⟩
              have HZ9 : Aside0 (AnZ (100 + (i + 1)) a9) := ⟨by rw [← ha9]; exact HZ.out.tick pw⟩
              have h11 : a9.first = fi := by rw [← ha9]; exact HFI.out
              have h13 : a9.resets = rz := by rw [← ha9]; exact HRZ.out
              clear ha9
              go_wp2
              go_roundg (l1.length - i)
              case rel => exact ⟨i + 1, a9, _, _, _, _, by omega, by omega, by first | rw [h11] | (rw [h11]; go_num), rfl, by first | (rw [h13]; done) | (rw [h13]; rfl) | (rw [h13]; go_num), rfl, rfl, by first | go_num | (congr 1; omega) | rfl, by omega, by rfl, HQ9, HI9, HZ9⟩
              case measure => omega
          have hk0 : ((kd : Int) == 0) = false := beq_eq_false_iff_ne.mpr (by omega)
          have hk1 : ((kd : Int) == 1) = false := beq_eq_false_iff_ne.mpr (by omega)
          have hk2 : ((kd : Int) == 2) = false := beq_eq_false_iff_ne.mpr (by omega)
          by_cases hn : a.x.way pw = []
          case pos =>
            as_aux_lemma =>
              have y0 := HQ2.out.P.at_w pw hw2
              obtain ⟨x0, x1, x2, x3, _, _, _, _⟩ := bx4 HQ2.out.P.X
              obtain ⟨Aw, cw, ew, _, _⟩ := Kd.R_reads (HQ2.out.P.y pw hw2)
              rw [ew, hn] at y0
              have y0a : W2.cell? ⟨B.gw, pw, none⟩ = some (.slice Aw 0 cw) := y0
              clear y0 ew hn
              obtain ⟨a9, ha9, HQ9⟩ : ∃ a9, a = a9 ∧ Aside0 (AnIs w (W2) (B) a9 (Vt) (Vo) (Vm)) := ⟨_, rfl, ⟨by exact HQ2.out⟩⟩
              have HI9 : Aside0 (AnI a9) := ⟨by rw [← ha9]; exact HI.out⟩
              have HZ9 : Aside0 (AnZ (100 + (i + 1)) a9) := ⟨by rw [← ha9]; exact HZ.out.more⟩
              have h11 : a9.first = fi := by rw [← ha9]; exact HFI.out
              have h13 : a9.resets = rz := by rw [← ha9]; exact HRZ.out
              clear ha9
              go_wp2
              go_roundg (l1.length - i)
              case rel => exact ⟨i + 1, a9, _, _, _, _, by omega, by omega, by first | rw [h11] | (rw [h11]; go_num), rfl, by first | (rw [h13]; done) | (rw [h13]; rfl) | (rw [h13]; go_num), rfl, rfl, by first | go_num | (congr 1; omega) | rfl, by omega, by rfl, HQ9, HI9, HZ9⟩
              case measure => omega
          case neg =>
            as_aux_lemma =>
              obtain ⟨n, hnn⟩ : ∃ n, (a.x.way pw).length = n := ⟨_, rfl⟩
              have hn0 : 0 < n := by rw [← hnn]; exact List.length_pos_iff.mpr hn
              have hn1 : n ≤ 1600 := by rw [← hnn]; have := HZ.out.way pw hw2; omega
              obtain ⟨pi, hpi⟩ : ∃ pi, pickN t2 n = pi := ⟨_, rfl⟩
              have hpn : pi < n := by rw [← hpi]; exact pickN_lt t2 n hn0
              have HP2 := Aside0.mk (fun W => pick_calls t2 n W HYB.out.2.2 hn0 (by omega))
              simp only [hpi] at HP2
              have HNN := Aside0.mk hnn
              obtain ⟨⟨f0, f1, f2, f3, f4⟩, hfr⟩ : ∃ fr, a.x.frame pw pi = fr := ⟨_, rfl⟩
              have HFR := Aside0.mk hfr
              have hf0 : Aside0 (-9223372036854775808 ≤ f0) := ⟨by have h1 := HI.out.c.ep (i := pi) hw2 (by rw [hnn]; exact hpn); rw [hfr] at h1; exact h1⟩
              have hp1 : ((n : Int) == 0) = false := beq_eq_false_iff_ne.mpr (by omega)
              have hqI : (pi : Int) < (n : Int) := by omega
              have hqI0 : (0 : Int) ≤ (pi : Int) := by omega
              clear hnn hpi hfr
              obtain ⟨gr, cw, ew, _, hgr, _⟩ := Kd.R_form (HQ2.out.P.y pw hw2) (by rw [HNN.out]; exact hn0)
              rw [HNN.out] at ew
              have HEW := Aside0.mk ew
              have hcw : n ≤ cw := by
                have h1 := HQ2.out.P.y pw hw2
                rw [ew] at h1
                exact (Kd.R_reads' h1).2.1
              have HYW : Aside0 (∀ W, AnIs w W B a Vt Vo Vm → W.cell? ⟨B.gw, pw, none⟩ = some (.slice (some ⟨gr, 0, none⟩) n cw)) := ⟨fun W h => by rw [h.P.at_w pw hw2, HEW.out]⟩
              have HYR : Aside0 (∀ W, AnIs w W B a Vt Vo Vm → kF.R 46 W w.heap.size (fun _ => True) (.slice (some ⟨gr, 0, none⟩) n cw) (a.x.way pw)) := ⟨fun W h => by have := h.P.y pw hw2; rw [HEW.out] at this; exact this⟩
              clear ew hgr hn
              obtain ⟨x0, x1, x2, x3, _, _, _, _⟩ := bx4 HQ2.out.P.X
              have y0 := HYW.out _ HQ2.out
              go_wp2
              clear x0 x1 x2 x3 y0
              have HQd := Aside0.mk HQ2.out.drew
              have HXd := Aside0.mk (HX2.out.drew)
              obtain ⟨W6, hW6⟩ : ∃ W6, W2.drew = W6 := ⟨_, rfl⟩
              rw [hW6] at HQd HXd
              refine start_ (n := 22) (S := fun W => Below W6.heap.size W6 W) (ds := [21]) (bz 22 0) (by kernel_rfl) rfl rfl (by rw [hW6]; exact Below.refl _ _) (fun hHeld => ?_); refine with_tabW anR.tab27 anR.bits27 (fun HT_ HW_ => ?_)
              rw [hW6] at hHeld ⊢
              clear hW6 HQ2 HX2
              refine pu_ 0 (some 95) (bz 22 1) HT_.out ?_
              refine pu_ 1 (some 96) (bz 22 3) HT_.out ?_
              refine pu_ 2 (some 97) (bz 22 7) HT_.out ?_
              refine pu_ 4 (some 99) (bz 22 23) HT_.out ?_
              refine pu_ 7 (some 102) (bz 22 151) HT_.out ?_
              refine pu_ 9 (some 104) (bz 22 663) HT_.out ?_
              refine pu_ 10 (some 105) (bz 22 1687) HT_.out ?_
              refine pu_ 11 (some 106) (bz 22 3735) HT_.out ?_
              refine pu_ 13 (some 108) (bz 22 11927) HT_.out ?_
              refine take_ (i := 3) (N := (some 98)) (v := ?_) (a' := ?_) (bz 22 11935) rfl rfl (take_ofW HT_.out HW_.out (by kernel_rfl)) (fun _ _ _ h => h) (Or.inl ⟨by rfl, ?_⟩) hHeld ?_ ?_
              rotate_left
              · rintro w' s0
                have sQ := HQd.out.below s0
                obtain ⟨x0, x1, x2, x3, _, _, _, _⟩ := bx4 sQ.P.X
                go_simp
                with_reducible rfl
              rotate_left
              · simp only [Act.put, sl1, sl2, sl3, i64_w, i32_w]
                rfl
              refine pu_ 5 (some 100) (bz 22 11967) HT_.out ?_
              refine take_ (i := 6) (N := (some 101)) (v := ?_) (a' := ?_) (bz 22 12031) rfl rfl (take_ofW HT_.out HW_.out (by kernel_rfl)) (fun _ _ _ h => h) (Or.inl ⟨by rfl, ?_⟩) hHeld ?_ ?_
              rotate_left
              · rintro w' s0
                have y0 := HYW.out _ (HQd.out.below s0)
                go_simp
                with_reducible rfl
              rotate_left
              · simp only [Act.put, sl1, sl2, sl3, i64_w, i32_w]
                rfl
              refine take_ (i := 8) (N := (some 103)) (v := ?_) (a' := ?_) (bz 22 12287) rfl rfl (take_ofW HT_.out HW_.out (by kernel_rfl)) (fun _ _ _ h => h) (Or.inl ⟨by rfl, ?_⟩) hHeld ?_ ?_
              rotate_left
              · rintro w' s0
                obtain ⟨d0, d1, d2, d3, _, _, _, _⟩ := bx4 (blk_below HXd.out.D s0)
                go_simp
                with_reducible rfl
              rotate_left
              · simp only [Act.put, sl1, sl2, sl3, i64_w, i32_w]
                rfl
              refine take_ (i := 12) (N := (some 107)) (v := ?_) (a' := ?_) (bz 22 16383) rfl rfl (take_ofW HT_.out HW_.out (by kernel_rfl)) (fun _ _ _ h => h) (Or.inl ⟨by rfl, ?_⟩) hHeld ?_ ?_
              rotate_left
              · rintro w' s0
                have sQ := HQd.out.below s0
                obtain ⟨x0, x1, x2, x3, _, _, _, _⟩ := bx4 sQ.P.X
                go_simp
                with_reducible rfl
              rotate_left
              · simp only [Act.put, sl1, sl2, sl3, i64_w, i32_w]
                rfl
              refine pu_ 14 (some 109) (bz 22 32767) HT_.out ?_
              refine take_ (i := 15) (N := (some 110)) (v := ?_) (a' := ?_) (bz 22 65535) rfl rfl (take_ofW HT_.out HW_.out (by kernel_rfl)) (fun _ _ _ h => h) (Or.inl ⟨by rfl, ?_⟩) hHeld ?_ ?_
              rotate_left
              · rintro w' s0
                have y0 := HYW.out _ (HQd.out.below s0)
                go_simp
                with_reducible rfl
              rotate_left
              · simp only [Act.put, sl1, sl2, sl3, i64_w, i32_w]
                rfl
              refine pu_ 16 (some 111) (bz 22 131071) HT_.out ?_
              refine join_ (σ := Nat) 1 (bz 22 2097151) (fun s => [(112, .int .i64 (pi : Int)), (113, .pointer (some ⟨gr, pi * 5, none⟩)), (114, .agg #[.int .i64 f0, .int .i64 f1, .int .i64 f2, .int .i64 f3, .string f4]), (20, .pointer (some ⟨s, 0, none⟩))]) (fun s W => Below W6.heap.size W6 W ∧ W.heap[s]? = some (.cells #[.int .i64 0, .int .i64 0, .int .i64 0, .int .i64 0, .string ⟨#[]⟩] 46 (0, 0)) ∧ W6.heap.size ≤ s) ?_ ?_
              rotate_left
              · intro hJ
                refine two_ (i := 17) (j := 20) (Ni := (some 112)) (Nj := (some 20)) (bz 22 262143) (bz 22 1179647) rfl rfl rfl rfl (by kernel_rfl) (by decide) (by decide) (fun K hK => ?_) (fun K hK => ?_)
                · skip
                  refine goes_ Try.func14 (by kernel_rfl) rfl #[.int .i64 t2, .int .i64 (n : Int)] (by rfl) rfl rfl am ?_
                  refine (HP2.out _).mono ?_
                  rintro e w1 ⟨rfl, m1, rfl⟩
                  refine ⟨_, rfl, ?_⟩
                  have hH2 := pw_below_drewN hHeld m1
                  refine hK.out _ _ hH2 (fun hHeld => ?_)
                  clear hK K
                  refine norm_ (a' := ?_) ?_ ?_
                  rotate_left
                  · show Act.put _ (some 112) _ = _
                    simp only [Act.put, sl1, sl2, sl3, i64_w, i32_w]
                    rfl
                  refine pu_ 18 (some 113) (bz 22 524287) HT_.out ?_
                  refine take_ (i := 19) (N := (some 114)) (v := ?_) (a' := ?_) (bz 22 1048575) rfl rfl (take_ofW HT_.out HW_.out (by kernel_rfl)) (fun _ _ _ h => h) (Or.inl ⟨by rfl, ?_⟩) hHeld ?_ ?_
                  rotate_left
                  · rintro w' s0
                    obtain ⟨q0, q1, q2, q3, q4⟩ := rowF_at (HYR.out _ (HQd.out.below s0)) pi (by rw [HNN.out]; exact hpn)
                    have hfr2 : (a.x.way pw).getD pi z46 = ⟨f0, f1, f2, f3, f4⟩ := HFR.out
                    rw [hfr2] at q0 q1 q2 q3 q4
                    dsimp only at q0 q1 q2 q3 q4
                    go_simp
                    with_reducible rfl
                  rotate_left
                  · simp only [Act.put, sl1, sl2, sl3, i64_w, i32_w]
                    rfl
                  refine one_ (i := 20) (N := (some 20)) (bz 22 2097151) rfl rfl (one_of HT_.out (by kernel_rfl)) (by decide) (fun K hK => ?_)
                  refine value_ (w1 := ?_) (v := ?_) (by rfl) rfl ?_ ?_
                  rotate_left 2
                  · go_simp
                    constructor
                    · rfl
                    · rfl
                  have hAL := heap_alloc_new
                  refine hK.out _ _ (below_alloc hHeld _) (fun hHeld => ?_)
                  clear hK K
                  refine norm_ (a' := ?_) ?_ ?_
                  rotate_left
                  · show Act.put _ (some 20) _ = _
                    simp only [Act.put, sl1, sl2, sl3, i64_w, i32_w]
                    rfl
                  exact norm_ (by first | (simp only [putAll, Act.put, sl1, sl2, sl3, i64_w, i32_w]; done) | (simp only [putAll, Act.put, sl1, sl2, sl3, i64_w, i32_w]; rfl)) (hJ _ _ ⟨hHeld, heap_alloc_new _ _, hH2.size⟩)
                · skip
                  refine value_ (w1 := ?_) (v := ?_) (by rfl) rfl ?_ ?_
                  rotate_left 2
                  · go_simp
                    constructor
                    · rfl
                    · rfl
                  have hAL := heap_alloc_new
                  refine hK.out _ _ (below_alloc hHeld _) (fun hHeld => ?_)
                  clear hK K
                  refine norm_ (a' := ?_) ?_ ?_
                  rotate_left
                  · show Act.put _ (some 20) _ = _
                    simp only [Act.put, sl1, sl2, sl3, i64_w, i32_w]
                    rfl
                  refine one_ (i := 17) (N := (some 112)) (bz 22 1310719) rfl rfl (one_of HT_.out (by kernel_rfl)) (by decide) (fun K hK => ?_)
                  refine goes_ Try.func14 (by kernel_rfl) rfl #[.int .i64 t2, .int .i64 (n : Int)] (by rfl) rfl rfl am ?_
                  refine (HP2.out _).mono ?_
                  rintro e w1 ⟨rfl, m1, rfl⟩
                  refine ⟨_, rfl, ?_⟩
                  have hH2 := pw_below_drewN hHeld m1
                  refine hK.out _ _ hH2 (fun hHeld => ?_)
                  clear hK K
                  refine norm_ (a' := ?_) ?_ ?_
                  rotate_left
                  · show Act.put _ (some 112) _ = _
                    simp only [Act.put, sl1, sl2, sl3, i64_w, i32_w]
                    rfl
                  refine pu_ 18 (some 113) (bz 22 1572863) HT_.out ?_
                  refine take_ (i := 19) (N := (some 114)) (v := ?_) (a' := ?_) (bz 22 2097151) rfl rfl (take_ofW HT_.out HW_.out (by kernel_rfl)) (fun _ _ _ h => h) (Or.inl ⟨by rfl, ?_⟩) hHeld ?_ ?_
                  rotate_left
                  · rintro w' s0
                    obtain ⟨q0, q1, q2, q3, q4⟩ := rowF_at (HYR.out _ (HQd.out.below s0)) pi (by rw [HNN.out]; exact hpn)
                    have hfr2 : (a.x.way pw).getD pi z46 = ⟨f0, f1, f2, f3, f4⟩ := HFR.out
                    rw [hfr2] at q0 q1 q2 q3 q4
                    dsimp only at q0 q1 q2 q3 q4
                    go_simp
                    with_reducible rfl
                  rotate_left
                  · simp only [Act.put, sl1, sl2, sl3, i64_w, i32_w]
                    rfl
                  exact norm_ (by first | (simp only [putAll, Act.put, sl1, sl2, sl3, i64_w, i32_w]; done) | (simp only [putAll, Act.put, sl1, sl2, sl3, i64_w, i32_w]; rfl)) (hJ _ _ ⟨hHeld, blk_drewN (heap_alloc_new _ _) m1, Nat.le_refl _⟩)
              intro s W4 hF
              obtain ⟨hb4, hbx4, hs4⟩ := hF
              have HB4 := Aside0.mk hb4
              have HBX4 := Aside0.mk hbx4
              have HS4 := Aside0.mk hs4
              clear hb4 hbx4 hs4
              obtain ⟨hv0, hv1, hv2, hv3, hv4, hfv0, hfv1, hfv2, hfv3, hfv4⟩ := bx5 HBX4.out
              refine norm_ (a' := ?_) ?_ ?_
              rotate_left
              · simp only [putAll, Act.put, sl1, sl2, sl3, i64_w, i32_w]
                rfl
              refine last_ (i := 21) (N := none) (bz 22 4194303) rfl rfl (one_of HT_.out (by kernel_rfl)) (by decide) (fun K hK => ?_)
              refine skip_ (w1 := ?_) (by rfl) rfl ?_ ?_
              rotate_left
              · go_simp
                rfl
              refine hK.out _ _ ?_
              clear hK K
              refine done_ (done_of HT_.out (by kernel_rfl)) ?_
              clear HT_ HW_ hHeld
              have HB5 : Aside0 (Below W6.heap.size W6 ((((((W4).setCell ⟨s, 0, none⟩ (.int .i64 f0)).setCell ⟨s, 1, none⟩ (.int .i64 f1)).setCell ⟨s, 2, none⟩ (.int .i64 f2)).setCell ⟨s, 3, none⟩ (.int .i64 f3)).setCell ⟨s, 4, none⟩ (.string f4))) := ⟨HB4.out.trans (((((((Only.refl W4 (· = s)).set_ 0 (.int .i64 f0)).set_ 1 (.int .i64 f1)).set_ 2 (.int .i64 f2)).set_ 3 (.int .i64 f3)).set_ 4 (.string f4)).below HB4.out.size (fun i hi => by rw [hi]; exact HS4.out))⟩
              have HF5 : Aside0 (((((((W4).setCell ⟨s, 0, none⟩ (.int .i64 f0)).setCell ⟨s, 1, none⟩ (.int .i64 f1)).setCell ⟨s, 2, none⟩ (.int .i64 f2)).setCell ⟨s, 3, none⟩ (.int .i64 f3)).setCell ⟨s, 4, none⟩ (.string f4)).heap[s]? = some (.cells #[.int .i64 f0, .int .i64 f1, .int .i64 f2, .int .i64 f3, .string f4] 46 (0, 0))) := ⟨by rw [blk_set (blk_set (blk_set (blk_set (blk_set HBX4.out _ _) _ _) _ _) _ _) _ _]; rfl⟩
              generalize (((((W4).setCell ⟨s, 0, none⟩ (.int .i64 f0)).setCell ⟨s, 1, none⟩ (.int .i64 f1)).setCell ⟨s, 2, none⟩ (.int .i64 f2)).setCell ⟨s, 3, none⟩ (.int .i64 f3)).setCell ⟨s, 4, none⟩ (.string f4) = W5 at HB5 HF5 ⊢
              have HQ5 := Aside0.mk (HQd.out.below HB5.out)
              have HX5 := Aside0.mk (blk_below HXd.out.D HB5.out)
              clear hv0 hv1 hv2 hv3 hv4 hfv0 hfv1 hfv2 hfv3 hfv4 HBX4 HB4 HS4 HB5 HQd HXd HYW HYR HEW HP2 hcw hqI hqI0 hn1 hn0
              obtain ⟨l', hl'⟩ : ∃ l', ((a.x.l pw).take ⟨f0, f1, f2, f3, f4⟩).1 = l' := ⟨_, rfl⟩
              obtain ⟨bs, hbs⟩ : ∃ bs, ((a.x.l pw).take ⟨f0, f1, f2, f3, f4⟩).2.1 = bs := ⟨_, rfl⟩
              obtain ⟨rs, hrs⟩ : ∃ rs, ((a.x.l pw).take ⟨f0, f1, f2, f3, f4⟩).2.2 = rs := ⟨_, rfl⟩
              obtain ⟨nb, hnb⟩ : ∃ nb, bs.length = nb := ⟨_, rfl⟩
              have hnb1 : nb ≤ 1 := by rw [← hnb, ← hbs]; exact take_len _ _
              have HNB := Aside0.mk hnb
              have HT3 : Aside0 ((a.x.l pw).take ⟨f0, f1, f2, f3, f4⟩ = (l', bs, rs)) := ⟨by rw [← hl', ← hbs, ← hrs]⟩
              have HC : Aside0 (∀ W, AnIs w W B a Vt Vo Vm → Calls Try.prog 18 #[.pointer (some ⟨B.g pw, 0, none⟩), .agg #[.int .i64 f0, .int .i64 f1, .int .i64 f2, .int .i64 f3, .string f4]] W (TakeQ W w.heap.size W.heap.size (B.g pw) (B.V pw) l' bs nb rs)) := ⟨fun W h => by
                have h1 := take_calls _ _ _ _ ⟨f0, f1, f2, f3, f4⟩ W (h.P.lk pw hw2) (HI.out.c.ok pw hw2) hf0.out
                rw [HT3.out] at h1
                rw [← hnb]
                exact h1⟩
              clear hl' hbs hnb hrs
              go_wp2
              have HQe := Aside0.mk HQ5.out.drew
              have HXe := Aside0.mk (blk_drew HX5.out)
              have HFe := Aside0.mk (blk_drew HF5.out)
              refine start_ (n := 14) (S := fun W => PairS W B b3 #[.int .i64 t0, .int .i64 t1, .int .i64 t2, .string t3] ∧ W.heap[s]? = some (.cells #[.int .i64 f0, .int .i64 f1, .int .i64 f2, .int .i64 f3, .string f4] 46 (0, 0))) (ds := []) (bz 14 0) (by kernel_rfl) rfl rfl ⟨PairS.of HQe.out.P HXe.out, HFe.out⟩ (fun hHeld => ?_); refine with_tabW anR.tab28 anR.bits28 (fun HT_ HW_ => ?_)
              generalize World.drew _ = W7 at hHeld HQe HXe HFe ⊢
              refine pu_ 0 (some 116) (bz 14 1) HT_.out ?_
              refine pu_ 1 (some 117) (bz 14 3) HT_.out ?_
              refine pu_ 2 (some 118) (bz 14 7) HT_.out ?_
              refine pu_ 4 (some 120) (bz 14 23) HT_.out ?_
              refine take_ (i := 3) (N := (some 119)) (v := ?_) (a' := ?_) (bz 14 31) rfl rfl (take_ofW HT_.out HW_.out (by kernel_rfl)) (fun _ _ _ h => h) (Or.inl ⟨by rfl, ?_⟩) hHeld ?_ ?_
              rotate_left
              · rintro w' ⟨s0, s1⟩
                obtain ⟨x0, x1, x2, x3, _, _, _, _⟩ := bx4 s0.X
                go_simp
                with_reducible rfl
              rotate_left
              · simp only [Act.put, sl1, sl2, sl3, i64_w, i32_w]
                rfl
              refine pu_ 5 (some 121) (bz 14 63) HT_.out ?_
              refine take_ (i := 6) (N := (some 122)) (v := ?_) (a' := ?_) (bz 14 127) rfl rfl (take_ofW HT_.out HW_.out (by kernel_rfl)) (fun _ _ _ h => h) (Or.inl ⟨by rfl, ?_⟩) hHeld ?_ ?_
              rotate_left
              · rintro w' ⟨s0, s1⟩
                have y0 := s0.at_l pw hw2
                go_simp
                with_reducible rfl
              rotate_left
              · simp only [Act.put, sl1, sl2, sl3, i64_w, i32_w]
                rfl
              refine take_ (i := 7) (N := (some 123)) (v := ?_) (a' := ?_) (bz 14 255) rfl rfl (take_ofW HT_.out HW_.out (by kernel_rfl)) (fun _ _ _ h => h) (Or.inl ⟨by rfl, ?_⟩) hHeld ?_ ?_
              rotate_left
              · rintro w' ⟨s0, s1⟩
                obtain ⟨f0_, f1_, f2_, f3_, f4_, _, _, _, _, _⟩ := bx5 s1
                go_simp
                with_reducible rfl
              rotate_left
              · simp only [Act.put, sl1, sl2, sl3, i64_w, i32_w]
                rfl
              refine one_ (i := 8) (N := (some 124)) (bz 14 511) rfl rfl (one_of HT_.out (by kernel_rfl)) (by decide) (fun K hK => ?_)
              refine goes_ Try.func18 (by kernel_rfl) rfl #[.pointer (some ⟨B.g pw, 0, none⟩), .agg #[.int .i64 f0, .int .i64 f1, .int .i64 f2, .int .i64 f3, .string f4]] (by rfl) rfl rfl am ?_
              refine (HC.out _ HQe.out).mono ?_
              rintro e w1 ⟨Ab, cb, rfl, hR, V1, hA, hO⟩
              refine ⟨_, rfl, ?_⟩
              have HQ4 := Aside0.mk (HQe.out.deed pw hw2 hA hO)
              have HX4 := Aside0.mk (hO.box (HQe.out.P.lk pw hw2) hHeld.1.D (by decide) (by decide))
              have HF4 := Aside0.mk (hO.box (HQe.out.P.lk pw hw2) hHeld.2 (by decide) (by decide))
              have HCO := Aside0.mk (Kd.R_reads' hR).2.2
              clear hR
              refine hK.out _ _ ⟨(PairS.of HQ4.out.P HX4.out).cast, HF4.out⟩ (fun hHeld => ?_)
              clear hK K
              refine norm_ (a' := ?_) ?_ ?_
              rotate_left
              · show Act.put _ (some 124) _ = _
                simp only [Act.put, sl1, sl2, sl3, i64_w, i32_w]
                rfl
              refine pu_ 9 (some 115) (bz 14 1023) HT_.out ?_
              refine pu_ 10 (some 125) (bz 14 2047) HT_.out ?_
              refine pu_ 11 (some 126) (bz 14 4095) HT_.out ?_
              refine pu_ 12 (some 21) (bz 14 8191) HT_.out ?_
              refine pu_ 13 (some 22) (bz 14 16383) HT_.out ?_
              refine done_ (done_of HT_.out (by kernel_rfl)) ?_
              clear HT_ HW_ hHeld hA hO HQe HXe HFe HC HX4 HQ5 HX5 HF5
              have HCO5 : Aside0 (Kd.string.C w1 Ab nb bs) := ⟨by have h1 := HCO.out; rw [HNB.out] at h1; exact h1⟩
              clear HCO
              rcases two01 hw2 with hpe | hpe
              rotate_left
              · have hrs : rs = false := by
                  have h1 := (HI.out.come1 (i := pi) (by have := HNN.out; subst hpe; rw [this]; exact hpn)).2
                  have h2 := HT3.out
                  have h3 := HFR.out
                  subst hpe
                  rw [h3, h2] at h1
                  exact h1
                subst hrs
                have hp_ : ((pw : Int) == 1) = true := beq_iff_eq.mpr (by omega)
                have HE : Aside0 (a.comeA pw pi = { a with x := { a.x with l := upd a.x.l pw l' }, told := a.told ++ bs }) := ⟨by
                  have h2 := HT3.out
                  have h3 := HFR.out
                  subst hpe
                  exact comeA_1 (by rw [h3]; exact h2)⟩
                have HI8 : Aside0 (AnI (a.comeA pw pi)) := ⟨by have := HNN.out; subst hpe; exact (HI.out.come1 (by rw [this]; exact hpn)).1⟩
                clear hpe
                go_wp2_with ((with_reducible refine gate_builtin (b := .append) (xs := #[.tmp 139, .tmp 140]) rfl ?_); at_builtin; refine Kd.R_append_rows Kd.string (Rr := Kd.string.K w1) (w0 := w) w.heap.size rfl (.tmp 139) (.tmp 140) 36 9 (.string ⟨#[]⟩) 16 rfl Try.underlying36 infoS rfl (by decide) (by omega) Vt a.told bs Ab nb cb (fun _ => True) (fun _ => False) rfl rfl ?aO4 ?aR4 (fun _ _ h => h) (fun _ h => h.elim) ?aF4 ?aB4 ?aS4 ?aL4 ?_)
                case aR4 => exact HCO5.out
                try (case aF4 => exact (fun _ _ => trivial))
                case aO4 => exact HQ4.out.t
                case aB4 => exact HQ4.out.P.two.Bl
                case aS4 => exact HQ4.out.P.two.Bl.size
                case aL4 => have := HZ.out.told; omega
                intro v1 w6 ho hb hg hat
                have HQ6 := Aside0.mk (HQ4.out.told_ ho (Only.rowOf hg) (hat_of hat))
                clear ho hb hg hat HQ4 HF4 HCO5
                obtain ⟨a9, ha9, HQ9⟩ : ∃ a9, a.comeA pw pi = a9 ∧ Aside0 (AnIs w (w6) (_) a9 (v1) (Vo) (Vm)) := ⟨_, rfl, ⟨by rw [HE.out]; exact HQ6.out⟩⟩
                have HI9 : Aside0 (AnI a9) := ⟨by rw [← ha9]; exact HI8.out⟩
                have HZ9 : Aside0 (AnZ (100 + (i + 1)) a9) := ⟨by rw [← ha9]; exact HZ.out.come pw pi⟩
                have h11 : a9.first = fi := by rw [← ha9, HE.out]; exact HFI.out
                have h13 : a9.resets = rz := by rw [← ha9, HE.out]; exact HRZ.out
                clear ha9
                go_wp2
                go_roundg (l1.length - i)
                case rel => exact ⟨i + 1, a9, _, _, _, _, by omega, by omega, by first | rw [h11] | (rw [h11]; go_num), rfl, by first | (rw [h13]; done) | (rw [h13]; rfl) | (rw [h13]; go_num), rfl, rfl, by first | go_num | (congr 1; omega) | rfl, by omega, by rfl, HQ9, HI9, HZ9⟩
                case measure => omega
              · have hp_ : ((pw : Int) == 1) = false := beq_eq_false_iff_ne.mpr (by omega)
                have HE : Aside0 (a.comeA pw pi = { a with x := { a.x with l := upd a.x.l pw l' }, first := if rs = true then (a.x.sent 0).length else a.first, resets := if rs = true then a.resets + 1 else a.resets, mine := if f0 = 9 then a.mine ++ bs else a.mine }) := ⟨by
                  have h2 := HT3.out
                  have h3 := HFR.out
                  subst hpe
                  have h4 := comeA_0 (a := a) (i := pi) (l' := l') (bs := bs) (rs := rs) (by rw [h3]; exact h2)
                  rw [h3] at h4
                  exact h4⟩
                have HI8 : Aside0 (AnI (a.comeA pw pi)) := ⟨by have := HNN.out; subst hpe; exact HI.out.come0 (by rw [this]; exact hpn)⟩
                clear hpe
                obtain ⟨x0, x1, x2, x3, _, _, _, _⟩ := bx4 HQ4.out.P.X
                have v0 := HQ4.out.P.at_s 0 (by decide)
                obtain ⟨As, cs, es, _, _⟩ := Kd.R_reads (HQ4.out.P.s 0 (by decide))
                rw [es] at v0
                obtain ⟨n0, hn0⟩ : ∃ n0, (a.x.sent 0).length = n0 := ⟨_, rfl⟩
                have v1_ : w1.cell? ⟨B.gs, 0, none⟩ = some (.slice As n0 cs) := by rw [← hn0]; exact v0
                have HN0 := Aside0.mk hn0
                clear es hn0 v0
                obtain ⟨u0, u1, u2, u3, u4, _, _, _, _, _⟩ := bx5 HF4.out
                rcases Bool.eq_false_or_eq_true rs with hrs | hrs <;> subst hrs
                · skip
                  by_cases h9 : f0 = 9
                  · have h9b : (f0 == 9) = true := beq_iff_eq.mpr h9
                    have H9 := Aside0.mk h9
                    clear h9
                    go_wp2_with ((with_reducible refine gate_builtin (b := .append) (xs := #[.tmp 145, .tmp 146]) rfl ?_); at_builtin; refine Kd.R_append_rows Kd.string (Rr := Kd.string.K w1) (w0 := w) w.heap.size rfl (.tmp 145) (.tmp 146) 36 9 (.string ⟨#[]⟩) 16 rfl Try.underlying36 infoS rfl (by decide) (by omega) Vm a.mine bs Ab nb cb (fun _ => True) (fun _ => False) rfl rfl ?aO5 ?aR5 (fun _ _ h => h) (fun _ h => h.elim) ?aF5 ?aB5 ?aS5 ?aL5 ?_)
                    case aR5 => exact HCO5.out
                    try (case aF5 => exact (fun _ _ => trivial))
                    case aO5 => exact HQ4.out.m
                    case aB5 => exact HQ4.out.P.two.Bl
                    case aS5 => exact HQ4.out.P.two.Bl.size
                    case aL5 => have := HZ.out.mine; omega
                    intro v1 w6 ho hb hg hat
                    have HQ6 := Aside0.mk (HQ4.out.mine_ ho (Only.rowOf hg) (hat_of hat))
                    clear ho hb hg hat HQ4 HF4 HCO5 x0 x1 x2 x3 v1_ u0 u1 u2 u3 u4
                    have HQ7 : Aside0 (AnIs w w6 _ { a with x := { a.x with l := upd a.x.l pw l' }, first := if true = true then (a.x.sent 0).length else a.first, resets := if true = true then a.resets + 1 else a.resets, mine := if f0 = 9 then a.mine ++ bs else a.mine } Vt Vo v1) := ⟨⟨HQ6.out.P, HQ6.out.t, HQ6.out.o, by rw [if_pos H9.out]; exact HQ6.out.m, HQ6.out.ct, HQ6.out.co, HQ6.out.cm⟩⟩
                    obtain ⟨a9, ha9, HQ9⟩ : ∃ a9, a.comeA pw pi = a9 ∧ Aside0 (AnIs w (w6) (_) a9 (Vt) (Vo) (v1)) := ⟨_, rfl, ⟨by rw [HE.out]; exact HQ7.out⟩⟩
                    have HI9 : Aside0 (AnI a9) := ⟨by rw [← ha9]; exact HI8.out⟩
                    have HZ9 : Aside0 (AnZ (100 + (i + 1)) a9) := ⟨by rw [← ha9]; exact HZ.out.come pw pi⟩
                    have h11 : a9.first = n0 := by rw [← ha9, HE.out]; exact HN0.out
                    have h13 : a9.resets = rz + 1 := by rw [← ha9, HE.out]; exact congrArg (· + 1) HRZ.out
                    clear ha9
                    go_wp2
                    go_roundg (l1.length - i)
                    case rel => exact ⟨i + 1, a9, _, _, _, _, by omega, by omega, by first | rw [h11] | (rw [h11]; go_num), rfl, by first | (rw [h13]; done) | (rw [h13]; rfl) | (rw [h13]; go_num), rfl, rfl, by first | go_num | (congr 1; omega) | rfl, by omega, by rfl, HQ9, HI9, HZ9⟩
                    case measure => omega
                  · have h9b : (f0 == 9) = false := beq_eq_false_iff_ne.mpr h9
                    have H9 := Aside0.mk h9
                    clear h9
                    have HQ7 : Aside0 (AnIs w w1 _ { a with x := { a.x with l := upd a.x.l pw l' }, first := if true = true then (a.x.sent 0).length else a.first, resets := if true = true then a.resets + 1 else a.resets, mine := if f0 = 9 then a.mine ++ bs else a.mine } Vt Vo Vm) := ⟨⟨HQ4.out.P, HQ4.out.t, HQ4.out.o, by rw [if_neg H9.out]; exact HQ4.out.m, HQ4.out.ct, HQ4.out.co, HQ4.out.cm⟩⟩
                    obtain ⟨a9, ha9, HQ9⟩ : ∃ a9, a.comeA pw pi = a9 ∧ Aside0 (AnIs w (w1) (_) a9 (Vt) (Vo) (Vm)) := ⟨_, rfl, ⟨by rw [HE.out]; exact HQ7.out⟩⟩
                    have HI9 : Aside0 (AnI a9) := ⟨by rw [← ha9]; exact HI8.out⟩
                    have HZ9 : Aside0 (AnZ (100 + (i + 1)) a9) := ⟨by rw [← ha9]; exact HZ.out.come pw pi⟩
                    have h11 : a9.first = n0 := by rw [← ha9, HE.out]; exact HN0.out
                    have h13 : a9.resets = rz + 1 := by rw [← ha9, HE.out]; exact congrArg (· + 1) HRZ.out
                    clear ha9
                    go_wp2
                    go_roundg (l1.length - i)
                    case rel => exact ⟨i + 1, a9, _, _, _, _, by omega, by omega, by first | rw [h11] | (rw [h11]; go_num), rfl, by first | (rw [h13]; done) | (rw [h13]; rfl) | (rw [h13]; go_num), rfl, rfl, by first | go_num | (congr 1; omega) | rfl, by omega, by rfl, HQ9, HI9, HZ9⟩
                    case measure => omega
                · skip
                  by_cases h9 : f0 = 9
                  · have h9b : (f0 == 9) = true := beq_iff_eq.mpr h9
                    have H9 := Aside0.mk h9
                    clear h9
                    go_wp2_with ((with_reducible refine gate_builtin (b := .append) (xs := #[.tmp 145, .tmp 146]) rfl ?_); at_builtin; refine Kd.R_append_rows Kd.string (Rr := Kd.string.K w1) (w0 := w) w.heap.size rfl (.tmp 145) (.tmp 146) 36 9 (.string ⟨#[]⟩) 16 rfl Try.underlying36 infoS rfl (by decide) (by omega) Vm a.mine bs Ab nb cb (fun _ => True) (fun _ => False) rfl rfl ?aO6 ?aR6 (fun _ _ h => h) (fun _ h => h.elim) ?aF6 ?aB6 ?aS6 ?aL6 ?_)
                    case aR6 => exact HCO5.out
                    try (case aF6 => exact (fun _ _ => trivial))
                    case aO6 => exact HQ4.out.m
                    case aB6 => exact HQ4.out.P.two.Bl
                    case aS6 => exact HQ4.out.P.two.Bl.size
                    case aL6 => have := HZ.out.mine; omega
                    intro v1 w6 ho hb hg hat
                    have HQ6 := Aside0.mk (HQ4.out.mine_ ho (Only.rowOf hg) (hat_of hat))
                    clear ho hb hg hat HQ4 HF4 HCO5 x0 x1 x2 x3 v1_ u0 u1 u2 u3 u4
                    have HQ7 : Aside0 (AnIs w w6 _ { a with x := { a.x with l := upd a.x.l pw l' }, first := if false = true then (a.x.sent 0).length else a.first, resets := if false = true then a.resets + 1 else a.resets, mine := if f0 = 9 then a.mine ++ bs else a.mine } Vt Vo v1) := ⟨⟨HQ6.out.P, HQ6.out.t, HQ6.out.o, by rw [if_pos H9.out]; exact HQ6.out.m, HQ6.out.ct, HQ6.out.co, HQ6.out.cm⟩⟩
                    obtain ⟨a9, ha9, HQ9⟩ : ∃ a9, a.comeA pw pi = a9 ∧ Aside0 (AnIs w (w6) (_) a9 (Vt) (Vo) (v1)) := ⟨_, rfl, ⟨by rw [HE.out]; exact HQ7.out⟩⟩
                    have HI9 : Aside0 (AnI a9) := ⟨by rw [← ha9]; exact HI8.out⟩
                    have HZ9 : Aside0 (AnZ (100 + (i + 1)) a9) := ⟨by rw [← ha9]; exact HZ.out.come pw pi⟩
                    have h11 : a9.first = fi := by rw [← ha9, HE.out]; exact HFI.out
                    have h13 : a9.resets = rz := by rw [← ha9, HE.out]; exact HRZ.out
                    clear ha9
                    go_wp2
                    go_roundg (l1.length - i)
                    case rel => exact ⟨i + 1, a9, _, _, _, _, by omega, by omega, by first | rw [h11] | (rw [h11]; go_num), rfl, by first | (rw [h13]; done) | (rw [h13]; rfl) | (rw [h13]; go_num), rfl, rfl, by first | go_num | (congr 1; omega) | rfl, by omega, by rfl, HQ9, HI9, HZ9⟩
                    case measure => omega
                  · have h9b : (f0 == 9) = false := beq_eq_false_iff_ne.mpr h9
                    have H9 := Aside0.mk h9
                    clear h9
                    have HQ7 : Aside0 (AnIs w w1 _ { a with x := { a.x with l := upd a.x.l pw l' }, first := if false = true then (a.x.sent 0).length else a.first, resets := if false = true then a.resets + 1 else a.resets, mine := if f0 = 9 then a.mine ++ bs else a.mine } Vt Vo Vm) := ⟨⟨HQ4.out.P, HQ4.out.t, HQ4.out.o, by rw [if_neg H9.out]; exact HQ4.out.m, HQ4.out.ct, HQ4.out.co, HQ4.out.cm⟩⟩
                    obtain ⟨a9, ha9, HQ9⟩ : ∃ a9, a.comeA pw pi = a9 ∧ Aside0 (AnIs w (w1) (_) a9 (Vt) (Vo) (Vm)) := ⟨_, rfl, ⟨by rw [HE.out]; exact HQ7.out⟩⟩
                    have HI9 : Aside0 (AnI a9) := ⟨by rw [← ha9]; exact HI8.out⟩
                    have HZ9 : Aside0 (AnZ (100 + (i + 1)) a9) := ⟨by rw [← ha9]; exact HZ.out.come pw pi⟩
                    have h11 : a9.first = fi := by rw [← ha9, HE.out]; exact HFI.out
                    have h13 : a9.resets = rz := by rw [← ha9, HE.out]; exact HRZ.out
                    clear ha9
                    go_wp2
                    go_roundg (l1.length - i)
                    case rel => exact ⟨i + 1, a9, _, _, _, _, by omega, by omega, by first | rw [h11] | (rw [h11]; go_num), rfl, by first | (rw [h13]; done) | (rw [h13]; rfl) | (rw [h13]; go_num), rfl, rfl, by first | go_num | (congr 1; omega) | rfl, by omega, by rfl, HQ9, HI9, HZ9⟩
                    case measure => omega
        · by_cases hl : i < l1.length
          · have hd1 : decide ((i : Int) < (l1.length : Int)) = true := decide_eq_true (by omega)
            have hd2 : decide ((i : Int) < 100) = false := decide_eq_false (by omega)
            go_wp2
            go_meet
            case rel => exact ⟨a, B, _, _, _, by rw [HFI.out], rfl, by rw [HRZ.out], rfl, rfl, hgB, HQ, HI, ⟨HZ.out.mono (by omega)⟩⟩
          · have hd1 : decide ((i : Int) < (l1.length : Int)) = false := decide_eq_false (by omega)
            go_wp2
            go_meet
            case rel => exact ⟨a, B, _, _, _, by rw [HFI.out], rfl, by rw [HRZ.out], rfl, rfl, hgB, HQ, HI, ⟨HZ.out.mono (by omega)⟩⟩
    case rest =>
      obtain ⟨a, B, Vt, Vo, Vm, rfl, rfl, rfl, rfl, rfl, hgB, HQ, HI, HZ⟩ := hcut
      clear HQ6 HI5 HZ5 hr5 hn1
      obtain ⟨fi, hfi⟩ : ∃ fi, a.first = fi := ⟨_, rfl⟩
      obtain ⟨rz, hrz⟩ : ∃ rz, a.resets = rz := ⟨_, rfl⟩
      have HFI := Aside0.mk hfi
      have HRZ := Aside0.mk hrz
      rw [hfi, hrz]
      have hfb : fi ≤ 200 := by rw [← hfi]; exact HZ.out.first
      have hrb : rz ≤ 1 := by rw [← hrz]; exact HI.out.ends.1
      clear hfi hrz
      as_aux_lemma =>
        subst hgB
        obtain ⟨At, nt, ct, Ao, no, co, Am, nm, cm, As, cs, n0, rfl, rfl, rfl, hbt, hbo, hbm, hb0, he⟩ := end_facts HQ.out HI.out HZ.out HFI.out HRZ.out
        have HE := Aside0.mk he
        clear he HI HZ HFI HRZ HR0 HR1 HI0 HI1 hm0 hm1
        rename_i HK
        exact HK _ _ (anew_tail _ _ _ _ _ _ _ _ _ _ _ _ _ _ _ _ _ _ _ _ _ _ _ _ _ _ _ _ _ _ _ _ _ _ _ _ _ _ _ _ _ _ _ _ _ _ _ _ _ _ _ _ _ _ _ _ _ _ _ _ _ _ _ _ _ _ _ _ _ _ _ _ _ _ _ _ _ _ _ _ _ _ _ _ _ _ _ _ _ _ _ _ _ _ _ _ _ _ _ _ _ _ _ _ _ _ _ _ _ _ _ _ _ _ _ _ _ _ _ _ _ _ _ _ _ _ _ _ _ _ _ _ _ _ _ _ _ _ _ _ _ _ _ _ _ _ _ _ _ _ _ _ _ _ _ _ _ _ _ _ _ _ _ _ _ _ _ _ _ _ _ _ _ _ _ _ _ _ _ _ _ _ _ _ _ _ _ _ _ _ _ _ _ _ _ _ _ _ _ _ _ _ _ _ _ _ _ _ _ _ _ _ _ _ _ _ _ _ _ _ _ _ _ _ _ _ _ _ _ _ _ _ _ _ _ _ _ _ _ _ _ _ _ _ _ _ _ _ _ _ _ _ _ _ _ _ _ _ _ _ _ _ _ _ _ _ _ _ _ _ _ _ _ _ _ _ _ _ _ _ _ _ _ _ _ _ _ _ _ _ _ _ _ HQ HE hbt hbo hbm hb0 hfb hrb)

end Go.Proofs.Ytdpogggajdfedaa.P
