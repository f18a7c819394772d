import Derived.Test.YtdpogggajdfedaaLinkC
import Derived.Outline
import Derived.Laws.BitsAllLaws
import Derived.WalkSpells
import Derived.StillTailTactics
namespace Go.Proofs.Ytdpogggajdfedaa.P
open Go.RowKit Go.Proofs.YtdpogggajdfedaaW.PrintWords Go.Proofs.YtdpogggajdfedaaW.PrintLast Go.Proofs.YtdpogggajdfedaaW.PrintMore
attribute [local go_sem] max2_int min2_int max_two min_two max_three min_three max_four min_four
set_option linter.unusedVariables false
set_option linter.unusedSimpArgs false
/-- What Tick has done of its row behind k rounds. -/
def dueT (x : BdT) : BdT := ⟨x.f0, x.f1, true⟩
def LkS.tickK (l : LkS) (k : Nat) : LkS := { l with owes := l.owes || decide (l.peer = 0), ticks := 0, wait := (l.wait.take k).map dueT ++ l.wait.drop k }
theorem LkS.tickK_at (l : LkS) (k : Nat) (h : k < l.wait.length) : ∃ h2 : k < (l.tickK k).wait.length, (l.tickK k).wait[k] = l.wait[k] := part_get dueT l.wait k h
theorem LkS.tickK_set (l : LkS) (k : Nat) (h : k < l.wait.length) : ({ l.tickK k with wait := (l.tickK k).wait.set k (dueT l.wait[k]) } : LkS) = l.tickK (k + 1) :=
  congrArg (fun x => ({ l with owes := l.owes || decide (l.peer = 0), ticks := 0, wait := x } : LkS)) (part_set dueT l.wait k h)
theorem LkS.tickK_all (l : LkS) : l.tickK l.wait.length = { l with owes := l.owes || decide (l.peer = 0), ticks := 0, wait := l.wait.map fun x => ⟨x.f0, x.f1, true⟩ } := by
  unfold LkS.tickK
  rw [List.take_length, List.drop_length, List.append_nil]
  rfl
theorem LkS.tickK_zero (l : LkS) : l.tickK 0 = { l with owes := l.owes || decide (l.peer = 0), ticks := 0 } := by
  unfold LkS.tickK
  rw [List.take_zero, List.drop_zero]
  rfl
def LkS.tick0 (l : LkS) : LkS := { l with owes := l.owes || decide (l.peer = 0) }
def LkS.tick1 (l : LkS) : LkS := { l with owes := l.owes || decide (l.peer = 0), ticks := l.ticks + 1 }
theorem LkS.tick_is (l : LkS) : l.tick = if l.isOut = false then l.tick0 else if l.ticks + 1 < 3 then l.tick1 else l.tickK l.wait.length := by
  rw [LkS.tickK_all]
  rfl
set_option maxHeartbeats 8000000 in
set_option maxRecDepth 100000 in
theorem tick_calls (b g : Nat) (l : LkS) (V : Value) (w : World) (h : LkIs w b g l V) (hl : l.Ok) :
    Calls Try.prog 17 #[.pointer (some ⟨g, 0, none⟩)] w fun e w' => e = .returned (.tuple #[]) ∧ LkIs w' b g l.tick V ∧ LkOnly w w' g V V := by
  obtain ⟨A, c, e, _, _⟩ := Kd.R_reads h.R
  subst e
  obtain ⟨T, hT⟩ : ∃ T, l.tick = T := ⟨_, rfl⟩
  rw [hT]
  rw [LkS.tick_is] at hT
  have HT := Aside0.mk hT
  clear hT
  obtain ⟨h0, h1, h2, h3, h4, h5, h6⟩ := h.cells
  have hf5 := h.frozen 5
  obtain ⟨o, ho⟩ : ∃ o, l.owes = o := ⟨_, rfl⟩
  obtain ⟨q, hq⟩ : ∃ q, (l.peer == 0) = q := ⟨_, rfl⟩
  have hob : (l.owes || decide (l.peer = 0)) = (o || q) := by rw [ho, ← hq]; congr 1
  have H1 : Aside0 (LkIs (w.setCell ⟨g, 5, none⟩ (.bool (o || q))) b g l.tick0 (.slice A l.wait.length c)) := ⟨h.set1 5 (.bool (o || q)) l.tick0 (by rw [← hob]; rfl) rfl⟩
  have HO1 : Aside0 (LkOnly w (w.setCell ⟨g, 5, none⟩ (.bool (o || q))) g (.slice A l.wait.length c) (.slice A l.wait.length c)) := ⟨(LkOnly.refl w g _).set_ 5 _⟩
  have HW := Aside0.mk hl.w
  have HOK := Aside0.mk hl
  have hk0 := hl.k0
  have hk1 := hl.k1
  rw [ho] at h5
  obtain ⟨n, hn⟩ : ∃ n, l.wait.length = n := ⟨_, rfl⟩
  rw [hn] at h2 H1 HO1 HW HT ⊢
  have HN := Aside0.mk hn
  have hi32 := HW.out
  have HIO : Aside0 (∀ W, LkIs W b g l.tick0 (.slice A n c) → Calls Try.prog 27 #[.pointer (some ⟨g, 0, none⟩)] W fun e w' => e = .returned (.bool l.isOut) ∧ w' = W) := ⟨fun W h => out_calls b g l.tick0 _ W h (by show l.wait.length ≤ 32; rw [hn]; exact HW.out)⟩
  clear h hl ho hob hn
  cases o
  case' true => clear hq
  case' false => cases q
  all_goals
    simp only [Bool.true_or, Bool.false_or, Bool.or_true, Bool.or_false] at H1 HO1
    go_enter Try.func17, Try.ntmps17
    go_wp2_with (go_at_call 27; refine (HIO.out _ H1.out).mono ?_)
    rintro e w' ⟨rfl, rfl⟩
    clear h0 h1 h2 h3 h4 h5 h6 hf5 HIO
    generalize w.setCell ⟨g, 5, none⟩ _ = W1 at H1 HO1 ⊢
    obtain ⟨h0, h1, h2, h3, h4, h5, h6⟩ := H1.out.cells
    have hf6 := H1.out.frozen 6
    have h6a : W1.cell? ⟨g, 6, none⟩ = some (.int .i64 l.ticks) := h6
    clear h6
    cases hio : l.isOut
    · have HE : Aside0 (T = l.tick0) := ⟨by rw [← HT.out, if_pos hio]⟩
      clear hio
      go_wp2
      first | go_end0 | ((try simp only [Exit.inBlock, Exit.then]); refine bodyPost_ret (results_none rfl _ _ _) rfl ?_)
      exact ⟨rfl, by rw [HE.out]; exact H1.out, HO1.out⟩
    · by_cases c3 : l.ticks + 1 < 3
      · have HE : Aside0 (T = l.tick1) := ⟨by rw [← HT.out, if_neg (by rw [hio]; simp), if_pos c3]⟩
        clear hio
        have d3 : decide (l.ticks + 1 < 3) = true := decide_eq_true c3
        have H2 := Aside0.mk (H1.out.set1 6 (.int .i64 (l.ticks + 1)) l.tick1 rfl rfl)
        have HO2 := Aside0.mk (HO1.out.set_ 6 (.int .i64 (l.ticks + 1)))
        clear c3
        go_wp2
        first | go_end0 | ((try simp only [Exit.inBlock, Exit.then]); refine bodyPost_ret (results_none rfl _ _ _) rfl ?_)
        exact ⟨rfl, by rw [HE.out]; exact H2.out, HO2.out⟩
      · have HE : Aside0 (T = l.tickK n) := ⟨by rw [← HT.out, if_neg (by rw [hio]; simp), if_neg c3]⟩
        clear hio
        have d3 : decide (l.ticks + 1 < 3) = false := decide_eq_false c3
        have H2 := Aside0.mk ((H1.out.set1 6 (.int .i64 (l.ticks + 1)) l.tick1 rfl rfl).set1 6 (.int .i64 0) (l.tickK 0) (by rw [LkS.tickK_zero]; rfl) (by rw [LkS.tickK_zero]; rfl))
        have HO2 := Aside0.mk ((HO1.out.set_ 6 (.int .i64 (l.ticks + 1))).set_ 6 (.int .i64 0))
        clear c3
        go_wp2
        clear h0 h1 h2 h3 h4 h5 h6a hf6 H1 HO1 d3 hk0 hk1
        generalize (W1.setCell ⟨g, 6, none⟩ (.int .i64 (l.ticks + 1))).setCell ⟨g, 6, none⟩ (.int .i64 0) = W2 at H2 HO2 ⊢
        go_loopg [40] (n + 1) (fun kq v40 W => ∃ (k : Nat), k ≤ n ∧ v40 = .int .i64 (k : Int) ∧ n - k < kq ∧ Aside0 (LkIs W b g (l.tickK k) (.slice A n c)) ∧ Aside0 (LkOnly w W g (.slice A n c) (.slice A n c)))
        case atStart => exact ⟨0, by omega, rfl, by omega, H2, HO2⟩
        case round =>
          obtain ⟨k, hk, rfl, hq, HP, HO⟩ := hrel
          clear H2 HO2
          by_cases hlt : k < n
          · obtain ⟨hl2, hat⟩ := l.tickK_at k (by rw [HN.out]; exact hlt)
            obtain ⟨gr, cap, e, _, _, _⟩ := Kd.R_form HP.out.R (by omega)
            injection e with e1 e2 e3
            subst e1
            subst e3
            have hc := rowB_at HP.out.R k hl2
            have hS := HP.out.setR k 2 hl2 (by omega) (.bool true) (dueT (l.wait[k]'(by rw [HN.out]; exact hlt))) (by rw [hat]; rfl)
            rw [l.tickK_set k (by rw [HN.out]; exact hlt)] at hS
            have HS := Aside0.mk hS
            have HOS := Aside0.mk (HO.out.trans (w2 := wr.setCell ⟨gr, k * 3 + 2, none⟩ (.bool true)) ⟨(Only.refl _ _).setS (.inl (.inr (by simp [Value.ownBlock]))) _, .inl rfl⟩)
            have hf := row_frozen HP.out.R (k * 3 + 2)
            have hc2 := hc.2.2
            obtain ⟨y, hy⟩ : ∃ y, (l.tickK k).wait[k].f2 = y := ⟨_, rfl⟩
            rw [hy] at hc2
            have h2 : wr.cell? ⟨g, 2, none⟩ = some (.slice (some ⟨gr, 0, none⟩) n c) := HP.out.cells.2.2.1
            have i0 : (0 : Int) ≤ (k : Int) := by omega
            have i1 : (k : Int) < (n : Int) := by omega
            clear hS hc hat hy hl2
            go_wp2
            go_roundg (n - k)
            case rel => exact ⟨k + 1, by omega, by go_num, by omega, HS, HOS⟩
            case measure => omega
          · obtain rfl : k = n := by omega
            have d4 : decide ((k : Int) < (k : Int)) = false := decide_eq_false (by omega)
            go_wp2
            first | go_end0 | ((try simp only [Exit.inBlock, Exit.then]); refine bodyPost_ret (results_none rfl _ _ _) rfl ?_)
            exact ⟨rfl, by rw [HE.out]; exact HP.out, HO.out⟩

end Go.Proofs.Ytdpogggajdfedaa.P
