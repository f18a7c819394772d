import Derived.Test.YtdpogggajdfedaaLinkN
import Derived.Outline
import Derived.Laws.BitsAllLaws
import Derived.WalkSpells
import Derived.StillTailTactics
namespace Go.Proofs.Ytdpogggajdfedaa.P
open Go.RowKit Go.Proofs.YtdpogggajdfedaaW.PrintWords Go.Proofs.YtdpogggajdfedaaW.PrintLast Go.Proofs.YtdpogggajdfedaaW.PrintMore
attribute [local go_sem] max2_int min2_int max_two min_two max_three min_three max_four min_four
set_option linter.unusedVariables false
set_option linter.unusedSimpArgs false
def carillonlaw09_LinkOrder.f (l0 : List TurnT) : Option Bool :=
  if (l0.all fun x => inB x.f0 && inB x.f1 && inB x.f2) = true then some true else none
set_option maxHeartbeats 16000000 in
set_option maxRecDepth 100000 in
theorem carillonlaw09_LinkOrder.calls (A0 : Option Addr) (c0 : Nat) (l0 : List TurnT) (r : Bool) (w : World) (hr0 : Kd.C k28 w A0 l0.length l0) (hc0 : l0.length ≤ c0) (hr_ : Aside0 (r = true)) (h : carillonlaw09_LinkOrder.f l0 = some r) :
    Calls Try.prog 3 #[.slice A0 l0.length c0] w fun e w' => e = .returned (.bool r) ∧ Below w.heap.size w w' := by
  obtain rfl := hr_.out
  unfold carillonlaw09_LinkOrder.f at h
  split at h
  case isFalse => exact absurd h (by simp)
  rename_i hi0
  have HI0 := Aside0.mk hi0
  have HR0 := Aside0.mk hr0
  have hm0 := hr0.2.1
  clear hr0 hi0 h hr_
  go_enter Try.func3, Try.ntmps3
  go_wp2_with (go_at_call 9; refine (examples_calls w).mono ?_)
  rintro e W1 ⟨rfl, hB1⟩
  have HB1 := Aside0.mk hB1
  clear hB1
  go_wp2_with (go_at_call 10; refine (begin_calls W1).mono ?_)
  rintro e W2 ⟨B0, rfl, hP⟩
  have HP0 := Aside0.mk (hP.base HB1.out)
  obtain ⟨gx, hgx⟩ : ∃ gx, B0.gx = gx := ⟨_, rfl⟩
  rw [hgx]
  clear hP
  go_wp2
  go_loopg [5] (l0.length + 1) (fun kq v5 W => ∃ (i : Nat) (x : PaM) (B : PB), i ≤ l0.length ∧ i ≤ 300 ∧ v5 = .int .i64 (i : Int) ∧ l0.length - i < kq ∧ B.gx = gx ∧ Aside0 (PairIs w W B x) ∧ Aside0 (InvP i x))
  case atStart => exact ⟨0, PaM.start, B0, Nat.zero_le _, Nat.zero_le _, rfl, by omega, hgx, HP0, ⟨InvP.start⟩⟩
  case round =>
    obtain ⟨i, x, B, hi, hi3, rfl, hq, hgB, HX, HI⟩ := hrel
    clear HP0 hgx
    by_cases hlt : i < l0.length ∧ i < 300
    · obtain ⟨hl, hl3⟩ := hlt
      have hdc : decide ((i : Int) < 300) = true := decide_eq_true (by omega)
      obtain ⟨ad, e0, ht0, ht1, ht2, ht3⟩ := at_T28 (Kd.C_below HR0.out HX.out.two.Bl) (i : Int) (by omega) (by omega)
      cases e0
      have hyb := all_rdT HI0.out i hl
      rw [show ((i : Int)).toNat = i from rfl] at ht0 ht1 ht2 ht3
      have HSC := turn_next (rd_T28 l0 (i : Int)) hyb hgB HX.out HI.out (by omega)
      generalize rd_T28 l0 (i : Int) = y at ht0 ht1 ht2 ht3 HSC
      obtain ⟨y0, y1, y2, y3⟩ := y
      dsimp only at ht0 ht1 ht2 ht3 HSC
      have HSC1 := Aside0.mk HSC
      clear HSC hyb
      go_wp2_with (go_at_call 11; refine HSC1.out.mono ?_)
      rintro e W5 ⟨rfl, B5, hB5, HX5, HI5⟩
      clear HSC1 HX HI ht0 ht1 ht2 ht3
      go_wp2
      go_roundg (l0.length - i)
      case rel => exact ⟨i + 1, _, B5, by omega, by omega, by first | go_num | (congr 1; omega) | rfl, by omega, hB5, HX5, HI5⟩
      case measure => omega
    · by_cases hl : i < l0.length
      · have hd1 : decide ((i : Int) < (l0.length : Int)) = true := decide_eq_true (by omega)
        have hd2 : decide ((i : Int) < 300) = false := decide_eq_false (by omega)
        go_wp2
        go_ret
        exact ⟨rfl, HX.out.two.Bl⟩
      · have hd1 : decide ((i : Int) < (l0.length : Int)) = false := decide_eq_false (by omega)
        go_wp2
        go_ret
        exact ⟨rfl, HX.out.two.Bl⟩

end Go.Proofs.Ytdpogggajdfedaa.P
