import Derived.Test.YtdpogggajdfedaaLinkV
import Derived.Test.YtdpogggajdfedaaLinkN
import Derived.Outline
import Derived.Laws.BitsAllLaws
import Derived.WalkSpells
import Derived.StillTailTactics
namespace Go.Proofs.Ytdpogggajdfedaa.P
open Go.RowKit Go.Proofs.YtdpogggajdfedaaW.PrintWords Go.Proofs.YtdpogggajdfedaaW.PrintLast Go.Proofs.YtdpogggajdfedaaW.PrintMore
attribute [local go_sem] max2_int min2_int max_two min_two max_three min_three max_four min_four
set_option linter.unusedVariables false
set_option linter.unusedSimpArgs false
/-- Behind a turn: where it lies. -/
def TurnEndP (w : World) (gx : Nat) (y : PaM) (e : Ending) (W' : World) : Prop := e = .returned (.bool true) ∧ ∃ B', B'.gx = gx ∧ Aside0 (PairIs w W' B' y)
theorem turn_nextP {w W : World} {B : PB} {x : PaM} {n gx : Nat} (t : TurnT) (hi : inB t.f0 = true ∧ inB t.f1 = true ∧ inB t.f2 = true) (hg : B.gx = gx) (H : PairIs w W B x) (hI : InvP n x) (hn : n ≤ 10000) :
    Calls Try.prog 11 #[.pointer (some ⟨gx, 0, none⟩), .agg #[.int .i64 t.f0, .int .i64 t.f1, .int .i64 t.f2, .string t.f3]] W (TurnEndP w gx (x.turn t)) := by
  have h := turn_calls w W B x t hi.1 hi.2.1 hi.2.2 H (hI.pa_ok (by omega)) (hI.fine t)
  rw [hg] at h
  refine h.mono ?_
  rintro e W' ⟨rfl, B', hB, hP, hK⟩
  exact ⟨rfl, B', hB.1.trans hg, ⟨hP⟩⟩
theorem sT_in (k w : Nat) (hk : k ≤ 6) (hw : w < 2) : inB (sTurn k w).f0 = true ∧ inB (sTurn k w).f1 = true ∧ inB (sTurn k w).f2 = true := by
  refine ⟨(inB_iff _).2 ?_, (inB_iff _).2 ?_, (inB_iff _).2 ?_⟩
  · show _ ≤ (k : Int) ∧ (k : Int) < _; omega
  · show _ ≤ (w : Int) ∧ (w : Int) < _; omega
  · show _ ≤ (0 : Int) ∧ (0 : Int) < _; omega
def carillonlaw09_LinkAll.f (l0 : List TurnT) : Option Bool :=
  if (l0.all fun x => inB x.f0 && inB x.f1 && inB x.f2) = true then some true else none
set_option maxHeartbeats 16000000 in
set_option maxRecDepth 100000 in
theorem carillonlaw09_LinkAll.calls (A0 : Option Addr) (c0 : Nat) (l0 : List TurnT) (r : Bool) (w : World) (hr0 : Kd.C k28 w A0 l0.length l0) (hc0 : l0.length ≤ c0) (hr_ : Aside0 (r = true)) (h : carillonlaw09_LinkAll.f l0 = some r) :
    Calls Try.prog 4 #[.slice A0 l0.length c0] w fun e w' => e = .returned (.bool r) ∧ Below w.heap.size w w' := by
  obtain rfl := hr_.out
  unfold carillonlaw09_LinkAll.f at h
  split at h
  case isFalse => exact absurd h (by simp)
  rename_i hi0
  have HI0 := Aside0.mk hi0
  have HR0 := Aside0.mk hr0
  have hm0 := hr0.2.1
  clear hr0 hi0 h hr_
  go_enter Try.func4, Try.ntmps4
  go_wp2_with (go_at_call 9; refine (examples_calls w).mono ?_)
  rintro e W1 ⟨rfl, hB1⟩
  have HB1 := Aside0.mk hB1
  clear hB1
  go_wp2_with (go_at_call 10; refine (begin_calls W1).mono ?_)
  rintro e W2 ⟨B0, rfl, hP⟩
  have HP0 := Aside0.mk (hP.base HB1.out)
  obtain ⟨gx, hgx⟩ : ∃ gx, B0.gx = gx := ⟨_, rfl⟩
  rw [hgx]
  clear hP
  go_wp2
  go_loopg [5, 6] (l0.length + 1) (fun kq v5 v6 W => ∃ (i : Nat) (x : PaM) (B : PB), i ≤ l0.length ∧ i ≤ 200 ∧ v5 = .int .i64 (i : Int) ∧ l0.length - i < kq ∧ B.gx = gx ∧ Aside0 (PairIs w W B x) ∧ Aside0 (InvR i x))
  case atStart => exact ⟨0, PaM.start, B0, Nat.zero_le _, Nat.zero_le _, rfl, by omega, hgx, HP0, ⟨⟨InvP.start, InvQ.start⟩⟩⟩
  case round =>
    obtain ⟨i, x, B, hi, hi3, rfl, hq, hgB, HX, HI⟩ := hrel
    clear HP0 hgx
    by_cases hlt : i < l0.length ∧ i < 200
    · obtain ⟨hl, hl3⟩ := hlt
      have hdc : decide ((i : Int) < 200) = true := decide_eq_true (by omega)
      obtain ⟨ad, e0, ht0, ht1, ht2, ht3⟩ := at_T28 (Kd.C_below HR0.out HX.out.two.Bl) (i : Int) (by omega) (by omega)
      cases e0
      have hyb := all_rdT HI0.out i hl
      rw [show ((i : Int)).toNat = i from rfl] at ht0 ht1 ht2 ht3
      have HSC := turn_nextP (rd_T28 l0 (i : Int)) hyb hgB HX.out HI.out.p (by omega)
      have HIN : Aside0 (InvR (i + 1) (x.turn (rd_T28 l0 (i : Int)))) := ⟨⟨HI.out.p.turn _, HI.out.q.turn HI.out.p _⟩⟩
      generalize rd_T28 l0 (i : Int) = y at ht0 ht1 ht2 ht3 HSC HIN
      obtain ⟨y0, y1, y2, y3⟩ := y
      dsimp only at ht0 ht1 ht2 ht3 HSC
      have HSC1 := Aside0.mk HSC
      clear HSC hyb
      go_wp2_with (go_at_call 11; refine HSC1.out.mono ?_)
      rintro e W5 ⟨rfl, B5, hB5, HX5⟩
      clear HSC1 HX HI ht0 ht1 ht2 ht3
      go_wp2
      go_roundg (l0.length - i)
      case rel => exact ⟨i + 1, _, B5, by omega, by omega, by first | go_num | (congr 1; omega) | rfl, by omega, hB5, HX5, HIN⟩
      case measure => omega
    · -- the rounds
      have HI2 : Aside0 (InvR 200 x) := ⟨⟨HI.out.p.mono (by omega), HI.out.q⟩⟩
      by_cases hl : i < l0.length
      · have hd1 : decide ((i : Int) < (l0.length : Int)) = true := decide_eq_true (by omega)
        have hd2 : decide ((i : Int) < 200) = false := decide_eq_false (by omega)
        clear HI hlt hi hi3 hq HR0 HI0 hm0
        go_wp2
        go_loopg [7, 8, 9, 10] 101 (fun kq v7 v8 v9 v10 W => ∃ (k : Nat) (B : PB), k ≤ 100 ∧ v7 = .int .i64 (k : Int) ∧ 100 - k < kq ∧ B.gx = gx ∧ Aside0 (PairIs w W B (roundsM x k)))
        case atStart => exact ⟨0, B, Nat.zero_le _, rfl, by omega, hgB, ⟨HX.out⟩⟩
        case round =>
          obtain ⟨k, B1, hk, rfl, hq1, hg1, HX1⟩ := hrel
          clear HX hgB
          have HIk : Aside0 (InvR 200 (roundsM x k)) := ⟨HI2.out.rounds k⟩
          by_cases hk1 : k < 100
          · have HRN : Aside0 (roundM (roundsM x k) = roundsM x (k + 1)) := ⟨rfl⟩
            generalize roundsM x k = xk at HIk HX1 HRN
            have hdk : decide ((k : Int) < 100) = true := decide_eq_true (by omega)
            go_wp2
            go_loopg [8] 3 (fun kq v8 W => ∃ (j : Nat) (B : PB), j ≤ 2 ∧ v8 = .int .i64 (j : Int) ∧ 2 - j < kq ∧ B.gx = gx ∧ Aside0 (PairIs w W B (stg xk j)))
            case atStart => exact ⟨0, B1, Nat.zero_le _, rfl, by omega, hg1, ⟨HX1.out⟩⟩
            case round =>
              obtain ⟨j, B2, hj, rfl, hq2, hg2, HX2⟩ := hrel
              clear HX1 hg1
              by_cases hj1 : j < 2
              · have HIj : Aside0 (InvR 202 (stg xk j)) := ⟨by have h := HIk.out.stg1 j (by omega); exact ⟨h.p.mono (by omega), h.q⟩⟩
                have HST : Aside0 (((stg xk j).turn (sTurn 2 j)).turn (sTurn 1 j) = stg xk (j + 1)) := ⟨rfl⟩
                generalize stg xk j = xj at HIj HX2 HST
                have HT2 : Aside0 (Calls Try.prog 11 #[.pointer (some ⟨gx, 0, none⟩), .agg #[.int .i64 2, .int .i64 (j : Int), .int .i64 0, .string ⟨#[]⟩]] wr (TurnEndP w gx (xj.turn (sTurn 2 j)))) := ⟨turn_nextP (sTurn 2 j) (sT_in 2 j (by decide) hj1) hg2 HX2.out HIj.out.p (by decide)⟩
                have HIJ2 : Aside0 (InvR 202 (xj.turn (sTurn 2 j))) := ⟨HIj.out.tick1 hj1⟩
                generalize xj.turn (sTurn 2 j) = y2 at HT2 HIJ2 HST
                clear HIj
                go_wp2_with (go_at_call 11; refine HT2.out.mono ?_)
                rintro e W5 ⟨rfl, B5, hB5, HX5⟩
                have HT1 : Aside0 (Calls Try.prog 11 #[.pointer (some ⟨gx, 0, none⟩), .agg #[.int .i64 1, .int .i64 (j : Int), .int .i64 0, .string ⟨#[]⟩]] W5 (TurnEndP w gx (y2.turn (sTurn 1 j)))) := ⟨turn_nextP (sTurn 1 j) (sT_in 1 j (by decide) hj1) hB5 HX5.out HIJ2.out.p (by decide)⟩
                rw [HST.out] at HT1
                clear HT2 HX2 HIJ2 HX5 HST
                go_wp2_with (go_at_call 11; refine HT1.out.mono ?_)
                rintro e W6 ⟨rfl, B6, hB6, HX6⟩
                clear HT1
                go_wp2
                go_roundg (2 - j)
                case rel => exact ⟨j + 1, B6, by omega, by first | go_num | (congr 1; omega) | rfl, by omega, hB6, HX6⟩
                case measure => omega
              · have hj2 : j = 2 := by omega
                subst hj2
                have HIj : Aside0 (InvR 202 (stg xk 2)) := ⟨HIk.out.stg1 2 (by omega)⟩
                have HRN2 : Aside0 (del (stg xk 2) 2 = roundsM x (k + 1)) := ⟨HRN.out⟩
                clear HIk HRN
                generalize stg xk 2 = xs at HIj HX2 HRN2
                have hdj : decide ((2 : Int) < 2) = false := by decide
                go_wp2
                go_loopg [9, 10] 3 (fun kq v9 v10 W => ∃ (j : Nat) (B : PB), j ≤ 2 ∧ v9 = .int .i64 (j : Int) ∧ 2 - j < kq ∧ B.gx = gx ∧ Aside0 (PairIs w W B (del xs j)))
                case atStart => exact ⟨0, B2, Nat.zero_le _, rfl, by omega, hg2, ⟨HX2.out⟩⟩
                case round =>
                  obtain ⟨j, B3, hj3, rfl, hq3, hg3, HX3⟩ := hrel
                  clear HX2 hg2
                  by_cases hj4 : j < 2
                  · have HID : Aside0 (InvR 202 (del xs j)) := ⟨HIj.out.del1 j (by omega)⟩
                    have HDN : Aside0 (dl j ((del xs j).way j).length (del xs j) = del xs (j + 1)) := ⟨rfl⟩
                    generalize del xs j = xd at HX3 HID HDN
                    obtain ⟨xe, hxe⟩ : ∃ xe, del xs (j + 1) = xe := ⟨_, rfl⟩
                    have HXE := Aside0.mk hxe
                    rw [hxe] at HDN
                    clear hxe
                    have hdj4 : decide ((j : Int) < 2) = true := decide_eq_true (by omega)
                    go_wp2
                    go_loopg [10] ((xd.way j).length + 1) (fun kq v10 W => ∃ (y : PaM) (B : PB), (y.way j).length < kq ∧ B.gx = gx ∧ Aside0 (PairIs w W B y) ∧ Aside0 (InvR 202 y) ∧ Aside0 (dl j (y.way j).length y = xe))
                    case atStart => exact ⟨xd, B3, by omega, hg3, HX3, HID, HDN⟩
                    case round =>
                      obtain ⟨y, B4, hq4, hg4, HX4, HI4, HD4⟩ := hrel
                      clear HX3 hg3 HID HDN
                      obtain ⟨x0, x1, x2, x3, _, _, _, _⟩ := bx4 HX4.out.X
                      rw [hg4] at x0 x1 x2 x3
                      obtain ⟨Aw, cw, ew, _, _⟩ := Kd.R_reads (HX4.out.y j hj4)
                      obtain ⟨nb, hnb⟩ : ∃ nb, (y.way j).length = nb := ⟨_, rfl⟩
                      have v0 := HX4.out.at_w j hj4
                      rw [ew, hnb] at v0
                      rw [hnb] at HD4
                      have hjI : (j : Int) < 2 := by omega
                      have hjI0 : (0 : Int) ≤ (j : Int) := by omega
                      clear ew
                      by_cases hnz : 0 < nb
                      · have hd1 : decide ((nb : Int) > 0) = true := decide_eq_true (by omega)
                        have hne : y.way j ≠ [] := fun e => by rw [e] at hnb; simp at hnb; omega
                        have HT3 : Aside0 (Calls Try.prog 11 #[.pointer (some ⟨gx, 0, none⟩), .agg #[.int .i64 3, .int .i64 (j : Int), .int .i64 0, .string ⟨#[]⟩]] wr (TurnEndP w gx (y.turn (sTurn 3 j)))) := ⟨turn_nextP (sTurn 3 j) (sT_in 3 j (by decide) hj4) hg4 HX4.out HI4.out.p (by decide)⟩
                        have HI5 : Aside0 (InvR 202 (y.turn (sTurn 3 j))) := ⟨HI4.out.come1 hj4 hne⟩
                        have hn5 : ((y.turn (sTurn 3 j)).way j).length = nb - 1 := by
                          rw [turn_come1 _ hj4 hne]
                          unfold PaM.come PaM.gone
                          rw [if_neg (by decide), if_neg (by decide)]
                          show (upd y.way j _ j).length = _
                          rw [upd_same]
                          simp only [List.take_zero, List.nil_append, List.length_drop]
                          omega
                        have HD5 : Aside0 (dl j ((y.turn (sTurn 3 j)).way j).length (y.turn (sTurn 3 j)) = xe) := ⟨by rw [hn5, ← HD4.out]; obtain ⟨q, rfl⟩ : ∃ q, nb = q + 1 := ⟨nb - 1, by omega⟩; rfl⟩
                        generalize y.turn (sTurn 3 j) = y2 at HT3 HI5 HD5 hn5
                        have HN5 := Aside0.mk hn5
                        have HNB := Aside0.mk hnb
                        clear hn5 hnb hne HI4 HD4 HX4
                        go_wp2_with (go_at_call 11; refine HT3.out.mono ?_)
                        rintro e W5 ⟨rfl, B5, hB5, HX5⟩
                        clear HT3 x0 x1 x2 x3 v0
                        go_wp2
                        go_roundg (nb)
                        case rel => exact ⟨y2, B5, by rw [HN5.out]; omega, hB5, HX5, HI5, HD5⟩
                        case measure => rw [HNB.out] at hq4; omega
                      · have hn0 : nb = 0 := by omega
                        subst hn0
                        have HY : Aside0 (PairIs w wr B4 xe) := ⟨by rw [← HD4.out]; exact HX4.out⟩
                        clear HD4 HI4 hnb HX4
                        go_wp2
                        go_roundg (2 - j)
                        case rel => exact ⟨j + 1, B4, by omega, by first | go_num | (congr 1; omega) | rfl, by omega, hg4, ⟨by rw [HXE.out]; exact HY.out⟩⟩
                        case measure => omega
                  · have hj5 : j = 2 := by omega
                    subst hj5
                    have HX9 : Aside0 (PairIs w wr B3 (roundsM x (k + 1))) := ⟨by rw [← HRN2.out]; exact HX3.out⟩
                    clear HX3 HIj HRN2
                    go_wp2
                    go_roundg (100 - k)
                    case rel => exact ⟨k + 1, B3, by omega, by first | go_num | (congr 1; omega) | rfl, by omega, hg3, HX9⟩
                    case measure => omega
          · have hk2 : k = 100 := by omega
            subst hk2
            obtain ⟨hw0, ht1⟩ := HI2.out.all (by decide) 0 (by decide)
            obtain ⟨hw1, ht0⟩ := HI2.out.all (by decide) 1 (by decide)
            rw [show 1 - 0 = 1 from rfl] at ht1
            rw [show 1 - 1 = 0 from rfl] at ht0
            generalize roundsM x 100 = y at HX1 hw0 hw1 ht0 ht1
            clear HIk HI2
            obtain ⟨x0, x1, x2, x3, _, _, _, _⟩ := bx4 HX1.out.X
            rw [hg1] at x0 x1 x2 x3
            obtain ⟨At0, ct0, et0, _, _⟩ := Kd.R_reads (HX1.out.t 0 (by decide))
            obtain ⟨At1, ct1, et1, _, _⟩ := Kd.R_reads (HX1.out.t 1 (by decide))
            obtain ⟨As0, cs0, es0, _, _⟩ := Kd.R_reads (HX1.out.s 0 (by decide))
            obtain ⟨As1, cs1, es1, _, _⟩ := Kd.R_reads (HX1.out.s 1 (by decide))
            have t0 := HX1.out.at_t 0 (by decide)
            have t1 := HX1.out.at_t 1 (by decide)
            have s0 := HX1.out.at_s 0 (by decide)
            have s1 := HX1.out.at_s 1 (by decide)
            have p0 := HX1.out.at_l 0 (by decide)
            have p1 := HX1.out.at_l 1 (by decide)
            obtain ⟨a, ha⟩ : ∃ a, (y.sent 0).length = a := ⟨_, rfl⟩
            obtain ⟨b, hb⟩ : ∃ b, (y.sent 1).length = b := ⟨_, rfl⟩
            rw [et0, ht0, hb] at t0
            rw [et1, ht1, ha] at t1
            rw [es0, ha] at s0
            rw [es1, hb] at s1
            have HWT0 : Aside0 (∀ n, Calls Try.prog 12 #[.pointer (some ⟨B1.g 0, 0, none⟩)] (wr.drewN n) fun e w' => e = .returned (.int .i64 0) ∧ w' = wr.drewN n) := ⟨fun n => by have h := waiting_calls _ _ _ _ (wr.drewN n) ((HX1.out.drewN n).lk 0 (by decide)); rw [hw0] at h; exact h⟩
            have HWT1 : Aside0 (∀ n, Calls Try.prog 12 #[.pointer (some ⟨B1.g 1, 0, none⟩)] (wr.drewN n) fun e w' => e = .returned (.int .i64 0) ∧ w' = wr.drewN n) := ⟨fun n => by have h := waiting_calls _ _ _ _ (wr.drewN n) ((HX1.out.drewN n).lk 1 (by decide)); rw [hw1] at h; exact h⟩
            clear hw0 hw1 ht0 ht1 et0 et1 es0 es1 ha hb
            have haa : ((a : Int) == (a : Int)) = true := by simp
            have hbb : ((b : Int) == (b : Int)) = true := by simp
            go_wp2
            go_quiet (first | (go_at_call 12; exact Calls.quiet_of_same (HWT0.out _)) | (go_at_call 12; exact Calls.quiet_of_same (HWT1.out _)) | fail)
            go_wp2
            go_ret
            exact ⟨rfl, (HX1.out.drewN _).two.Bl⟩
      · have hd1 : decide ((i : Int) < (l0.length : Int)) = false := decide_eq_false (by omega)
        clear HI hlt hi hi3 hq HR0 HI0 hm0
        go_wp2
        go_loopg [7, 8, 9, 10] 101 (fun kq v7 v8 v9 v10 W => ∃ (k : Nat) (B : PB), k ≤ 100 ∧ v7 = .int .i64 (k : Int) ∧ 100 - k < kq ∧ B.gx = gx ∧ Aside0 (PairIs w W B (roundsM x k)))
        case atStart => exact ⟨0, B, Nat.zero_le _, rfl, by omega, hgB, ⟨HX.out⟩⟩
        case round =>
          obtain ⟨k, B1, hk, rfl, hq1, hg1, HX1⟩ := hrel
          clear HX hgB
          have HIk : Aside0 (InvR 200 (roundsM x k)) := ⟨HI2.out.rounds k⟩
          by_cases hk1 : k < 100
          · have HRN : Aside0 (roundM (roundsM x k) = roundsM x (k + 1)) := ⟨rfl⟩
            generalize roundsM x k = xk at HIk HX1 HRN
            have hdk : decide ((k : Int) < 100) = true := decide_eq_true (by omega)
            go_wp2
            go_loopg [8] 3 (fun kq v8 W => ∃ (j : Nat) (B : PB), j ≤ 2 ∧ v8 = .int .i64 (j : Int) ∧ 2 - j < kq ∧ B.gx = gx ∧ Aside0 (PairIs w W B (stg xk j)))
            case atStart => exact ⟨0, B1, Nat.zero_le _, rfl, by omega, hg1, ⟨HX1.out⟩⟩
            case round =>
              obtain ⟨j, B2, hj, rfl, hq2, hg2, HX2⟩ := hrel
              clear HX1 hg1
              by_cases hj1 : j < 2
              · have HIj : Aside0 (InvR 202 (stg xk j)) := ⟨by have h := HIk.out.stg1 j (by omega); exact ⟨h.p.mono (by omega), h.q⟩⟩
                have HST : Aside0 (((stg xk j).turn (sTurn 2 j)).turn (sTurn 1 j) = stg xk (j + 1)) := ⟨rfl⟩
                generalize stg xk j = xj at HIj HX2 HST
                have HT2 : Aside0 (Calls Try.prog 11 #[.pointer (some ⟨gx, 0, none⟩), .agg #[.int .i64 2, .int .i64 (j : Int), .int .i64 0, .string ⟨#[]⟩]] wr (TurnEndP w gx (xj.turn (sTurn 2 j)))) := ⟨turn_nextP (sTurn 2 j) (sT_in 2 j (by decide) hj1) hg2 HX2.out HIj.out.p (by decide)⟩
                have HIJ2 : Aside0 (InvR 202 (xj.turn (sTurn 2 j))) := ⟨HIj.out.tick1 hj1⟩
                generalize xj.turn (sTurn 2 j) = y2 at HT2 HIJ2 HST
                clear HIj
                go_wp2_with (go_at_call 11; refine HT2.out.mono ?_)
                rintro e W5 ⟨rfl, B5, hB5, HX5⟩
                have HT1 : Aside0 (Calls Try.prog 11 #[.pointer (some ⟨gx, 0, none⟩), .agg #[.int .i64 1, .int .i64 (j : Int), .int .i64 0, .string ⟨#[]⟩]] W5 (TurnEndP w gx (y2.turn (sTurn 1 j)))) := ⟨turn_nextP (sTurn 1 j) (sT_in 1 j (by decide) hj1) hB5 HX5.out HIJ2.out.p (by decide)⟩
                rw [HST.out] at HT1
                clear HT2 HX2 HIJ2 HX5 HST
                go_wp2_with (go_at_call 11; refine HT1.out.mono ?_)
                rintro e W6 ⟨rfl, B6, hB6, HX6⟩
                clear HT1
                go_wp2
                go_roundg (2 - j)
                case rel => exact ⟨j + 1, B6, by omega, by first | go_num | (congr 1; omega) | rfl, by omega, hB6, HX6⟩
                case measure => omega
              · have hj2 : j = 2 := by omega
                subst hj2
                have HIj : Aside0 (InvR 202 (stg xk 2)) := ⟨HIk.out.stg1 2 (by omega)⟩
                have HRN2 : Aside0 (del (stg xk 2) 2 = roundsM x (k + 1)) := ⟨HRN.out⟩
                clear HIk HRN
                generalize stg xk 2 = xs at HIj HX2 HRN2
                have hdj : decide ((2 : Int) < 2) = false := by decide
                go_wp2
                go_loopg [9, 10] 3 (fun kq v9 v10 W => ∃ (j : Nat) (B : PB), j ≤ 2 ∧ v9 = .int .i64 (j : Int) ∧ 2 - j < kq ∧ B.gx = gx ∧ Aside0 (PairIs w W B (del xs j)))
                case atStart => exact ⟨0, B2, Nat.zero_le _, rfl, by omega, hg2, ⟨HX2.out⟩⟩
                case round =>
                  obtain ⟨j, B3, hj3, rfl, hq3, hg3, HX3⟩ := hrel
                  clear HX2 hg2
                  by_cases hj4 : j < 2
                  · have HID : Aside0 (InvR 202 (del xs j)) := ⟨HIj.out.del1 j (by omega)⟩
                    have HDN : Aside0 (dl j ((del xs j).way j).length (del xs j) = del xs (j + 1)) := ⟨rfl⟩
                    generalize del xs j = xd at HX3 HID HDN
                    obtain ⟨xe, hxe⟩ : ∃ xe, del xs (j + 1) = xe := ⟨_, rfl⟩
                    have HXE := Aside0.mk hxe
                    rw [hxe] at HDN
                    clear hxe
                    have hdj4 : decide ((j : Int) < 2) = true := decide_eq_true (by omega)
                    go_wp2
                    go_loopg [10] ((xd.way j).length + 1) (fun kq v10 W => ∃ (y : PaM) (B : PB), (y.way j).length < kq ∧ B.gx = gx ∧ Aside0 (PairIs w W B y) ∧ Aside0 (InvR 202 y) ∧ Aside0 (dl j (y.way j).length y = xe))
                    case atStart => exact ⟨xd, B3, by omega, hg3, HX3, HID, HDN⟩
                    case round =>
                      obtain ⟨y, B4, hq4, hg4, HX4, HI4, HD4⟩ := hrel
                      clear HX3 hg3 HID HDN
                      obtain ⟨x0, x1, x2, x3, _, _, _, _⟩ := bx4 HX4.out.X
                      rw [hg4] at x0 x1 x2 x3
                      obtain ⟨Aw, cw, ew, _, _⟩ := Kd.R_reads (HX4.out.y j hj4)
                      obtain ⟨nb, hnb⟩ : ∃ nb, (y.way j).length = nb := ⟨_, rfl⟩
                      have v0 := HX4.out.at_w j hj4
                      rw [ew, hnb] at v0
                      rw [hnb] at HD4
                      have hjI : (j : Int) < 2 := by omega
                      have hjI0 : (0 : Int) ≤ (j : Int) := by omega
                      clear ew
                      by_cases hnz : 0 < nb
                      · have hd1 : decide ((nb : Int) > 0) = true := decide_eq_true (by omega)
                        have hne : y.way j ≠ [] := fun e => by rw [e] at hnb; simp at hnb; omega
                        have HT3 : Aside0 (Calls Try.prog 11 #[.pointer (some ⟨gx, 0, none⟩), .agg #[.int .i64 3, .int .i64 (j : Int), .int .i64 0, .string ⟨#[]⟩]] wr (TurnEndP w gx (y.turn (sTurn 3 j)))) := ⟨turn_nextP (sTurn 3 j) (sT_in 3 j (by decide) hj4) hg4 HX4.out HI4.out.p (by decide)⟩
                        have HI5 : Aside0 (InvR 202 (y.turn (sTurn 3 j))) := ⟨HI4.out.come1 hj4 hne⟩
                        have hn5 : ((y.turn (sTurn 3 j)).way j).length = nb - 1 := by
                          rw [turn_come1 _ hj4 hne]
                          unfold PaM.come PaM.gone
                          rw [if_neg (by decide), if_neg (by decide)]
                          show (upd y.way j _ j).length = _
                          rw [upd_same]
                          simp only [List.take_zero, List.nil_append, List.length_drop]
                          omega
                        have HD5 : Aside0 (dl j ((y.turn (sTurn 3 j)).way j).length (y.turn (sTurn 3 j)) = xe) := ⟨by rw [hn5, ← HD4.out]; obtain ⟨q, rfl⟩ : ∃ q, nb = q + 1 := ⟨nb - 1, by omega⟩; rfl⟩
                        generalize y.turn (sTurn 3 j) = y2 at HT3 HI5 HD5 hn5
                        have HN5 := Aside0.mk hn5
                        have HNB := Aside0.mk hnb
                        clear hn5 hnb hne HI4 HD4 HX4
                        go_wp2_with (go_at_call 11; refine HT3.out.mono ?_)
                        rintro e W5 ⟨rfl, B5, hB5, HX5⟩
                        clear HT3 x0 x1 x2 x3 v0
                        go_wp2
                        go_roundg (nb)
                        case rel => exact ⟨y2, B5, by rw [HN5.out]; omega, hB5, HX5, HI5, HD5⟩
                        case measure => rw [HNB.out] at hq4; omega
                      · have hn0 : nb = 0 := by omega
                        subst hn0
                        have HY : Aside0 (PairIs w wr B4 xe) := ⟨by rw [← HD4.out]; exact HX4.out⟩
                        clear HD4 HI4 hnb HX4
                        go_wp2
                        go_roundg (2 - j)
                        case rel => exact ⟨j + 1, B4, by omega, by first | go_num | (congr 1; omega) | rfl, by omega, hg4, ⟨by rw [HXE.out]; exact HY.out⟩⟩
                        case measure => omega
                  · have hj5 : j = 2 := by omega
                    subst hj5
                    have HX9 : Aside0 (PairIs w wr B3 (roundsM x (k + 1))) := ⟨by rw [← HRN2.out]; exact HX3.out⟩
                    clear HX3 HIj HRN2
                    go_wp2
                    go_roundg (100 - k)
                    case rel => exact ⟨k + 1, B3, by omega, by first | go_num | (congr 1; omega) | rfl, by omega, hg3, HX9⟩
                    case measure => omega
          · have hk2 : k = 100 := by omega
            subst hk2
            obtain ⟨hw0, ht1⟩ := HI2.out.all (by decide) 0 (by decide)
            obtain ⟨hw1, ht0⟩ := HI2.out.all (by decide) 1 (by decide)
            rw [show 1 - 0 = 1 from rfl] at ht1
            rw [show 1 - 1 = 0 from rfl] at ht0
            generalize roundsM x 100 = y at HX1 hw0 hw1 ht0 ht1
            clear HIk HI2
            obtain ⟨x0, x1, x2, x3, _, _, _, _⟩ := bx4 HX1.out.X
            rw [hg1] at x0 x1 x2 x3
            obtain ⟨At0, ct0, et0, _, _⟩ := Kd.R_reads (HX1.out.t 0 (by decide))
            obtain ⟨At1, ct1, et1, _, _⟩ := Kd.R_reads (HX1.out.t 1 (by decide))
            obtain ⟨As0, cs0, es0, _, _⟩ := Kd.R_reads (HX1.out.s 0 (by decide))
            obtain ⟨As1, cs1, es1, _, _⟩ := Kd.R_reads (HX1.out.s 1 (by decide))
            have t0 := HX1.out.at_t 0 (by decide)
            have t1 := HX1.out.at_t 1 (by decide)
            have s0 := HX1.out.at_s 0 (by decide)
            have s1 := HX1.out.at_s 1 (by decide)
            have p0 := HX1.out.at_l 0 (by decide)
            have p1 := HX1.out.at_l 1 (by decide)
            obtain ⟨a, ha⟩ : ∃ a, (y.sent 0).length = a := ⟨_, rfl⟩
            obtain ⟨b, hb⟩ : ∃ b, (y.sent 1).length = b := ⟨_, rfl⟩
            rw [et0, ht0, hb] at t0
            rw [et1, ht1, ha] at t1
            rw [es0, ha] at s0
            rw [es1, hb] at s1
            have HWT0 : Aside0 (∀ n, Calls Try.prog 12 #[.pointer (some ⟨B1.g 0, 0, none⟩)] (wr.drewN n) fun e w' => e = .returned (.int .i64 0) ∧ w' = wr.drewN n) := ⟨fun n => by have h := waiting_calls _ _ _ _ (wr.drewN n) ((HX1.out.drewN n).lk 0 (by decide)); rw [hw0] at h; exact h⟩
            have HWT1 : Aside0 (∀ n, Calls Try.prog 12 #[.pointer (some ⟨B1.g 1, 0, none⟩)] (wr.drewN n) fun e w' => e = .returned (.int .i64 0) ∧ w' = wr.drewN n) := ⟨fun n => by have h := waiting_calls _ _ _ _ (wr.drewN n) ((HX1.out.drewN n).lk 1 (by decide)); rw [hw1] at h; exact h⟩
            clear hw0 hw1 ht0 ht1 et0 et1 es0 es1 ha hb
            have haa : ((a : Int) == (a : Int)) = true := by simp
            have hbb : ((b : Int) == (b : Int)) = true := by simp
            go_wp2
            go_quiet (first | (go_at_call 12; exact Calls.quiet_of_same (HWT0.out _)) | (go_at_call 12; exact Calls.quiet_of_same (HWT1.out _)) | fail)
            go_wp2
            go_ret
            exact ⟨rfl, (HX1.out.drewN _).two.Bl⟩

end Go.Proofs.Ytdpogggajdfedaa.P
