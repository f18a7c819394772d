import Derived.Test.YtdpogggajdfedaaLinkG
import Derived.Test.YtdpogggajdfedaaPx1
import Derived.Lib.Strings
import Derived.Outline
import Derived.Laws.BitsAllLaws
import Derived.WalkSpells
import Derived.StillTailTactics
namespace Go.Proofs.Ytdpogggajdfedaa.P
open Go.RowKit Go.Proofs.YtdpogggajdfedaaW.PrintWords Go.Proofs.YtdpogggajdfedaaW.PrintLast Go.Proofs.YtdpogggajdfedaaW.PrintMore
attribute [local go_sem] max2_int min2_int max_two min_two max_three min_three max_four min_four
set_option linter.unusedVariables false
set_option linter.unusedSimpArgs false
attribute [local go_sem high] eqA46
/-- Two ends in memory, apart. -/
structure Two (w W : World) (ga gb : Nat) (Va Vb : Value) (la lb : LkS) : Prop where
  A : LkIs W w.heap.size ga la Va
  B : LkIs W w.heap.size gb lb Vb
  Bl : Below w.heap.size w W
  ne : ga ≠ gb
  dj : ∀ k, Va.ownBlock = some k → Vb.ownBlock ≠ some k
namespace Two
variable {w W W' : World} {ga gb : Nat} {Va Vb Va' : Value} {la lb la' : LkS}
theorem symm (h : Two w W ga gb Va Vb la lb) : Two w W gb ga Vb Va lb la := ⟨h.B, h.A, h.Bl, Ne.symm h.ne, fun k hk e => h.dj k e hk⟩
theorem below (h : Two w W ga gb Va Vb la lb) (hb : Below W.heap.size W W') : Two w W' ga gb Va Vb la lb := ⟨h.A.below hb, h.B.below hb, h.Bl.trans (hb.mono h.Bl.size), h.ne, h.dj⟩
theorem deed (h : Two w W ga gb Va Vb la lb) (hA : LkIs W' w.heap.size ga la' Va') (ho : LkOnly W W' ga Va Va') : Two w W' ga gb Va' Vb la' lb := by
  refine ⟨hA, h.B.away ho.1 (fun e => e.elim (fun e => h.ne e.symm) (h.A.neT h.B.X (by decide))) (fun k hk e => e.elim (fun e => h.B.neT h.A.X (by decide) (by rw [hk, e])) (fun e => h.dj k e hk)), h.Bl.trans (ho.1.below h.Bl.size (fun i hi => hi.elim (fun e => by rw [e]; exact h.A.ge) (fun e => Kd.R_base h.A.R i e))), h.ne, fun k hk e => ?_⟩
  rcases ho.2 with e2 | e2
  · exact h.dj k (by rw [← e2]; exact hk) e
  · have := e2 k hk
    have := Kd.R_lt h.B.R k e
    omega
end Two
/-- A row of another type stays. -/
theorem LkOnly.row {α : Type} {d : Kd α} {e : Nat} {W W' : World} {b g n : Nat} {l : LkS} {V V' v : Value} {ok : Nat → Prop} {xs : List α} (ho : LkOnly W W' g V V') (hl : LkIs W b g l V) (hE : d.E = []) (h : d.R e W n ok v xs) (h1 : e ≠ 63) (h2 : e ≠ 65) : d.R e W' n ok v xs := by
  refine R_only hE h ho.1 (fun k hk hS => ?_)
  obtain ⟨inner, hi⟩ := Kd.R_own h
  obtain ⟨cells, hc⟩ := own_typed hi k hk
  rcases hS with e1 | e1
  · exact blk_ne hc hl.X h1 e1
  · exact hl.neT hc h2 e1
theorem at_row0 {W : World} {n : Nat} {ok : Nat → Prop} {v : Value} {x : FrT} (h : kF.R 46 W n ok v [x]) : ∃ k c, v = .slice (some ⟨k, 0, none⟩) 1 c ∧ W.cell? ⟨k, 0, none⟩ = some (.int .i64 x.f0) ∧ W.cell? ⟨k, 1, none⟩ = some (.int .i64 x.f1) ∧ W.cell? ⟨k, 2, none⟩ = some (.int .i64 x.f2) ∧ W.cell? ⟨k, 3, none⟩ = some (.int .i64 x.f3) ∧ W.cell? ⟨k, 4, none⟩ = some (.string x.f4) := by
  obtain ⟨k, c, e, _, _, _⟩ := Kd.R_form h (by simp)
  subst e
  obtain ⟨_, _, hC⟩ := Kd.R_reads' h
  obtain ⟨ad, e, h0, h1, h2, h3, h4⟩ := at_T46 hC 0 (by decide) (by simp)
  injection e with e
  subst e
  exact ⟨k, c, rfl, h0, h1, h2, h3, h4⟩
def exS : ByteArray := ⟨#[120]⟩
def exA0 : LkS := LkS.begin_ 1
def exA1 : LkS := { exA0 with wait := [⟨exS, false, true⟩] }
def exA2 : LkS := { exA1 with owes := false }
def exA3 : LkS := { exA2 with peer := 1 }
def exA4 : LkS := { exA3 with wait := [⟨exS, true, false⟩] }
def exB1 : LkS := { exA0 with peer := 1, owes := true }
def exB2 : LkS := { exB1 with owes := false }
def exB3 : LkS := { exB2 with taken := 1, owes := true }
def exB5 : LkS := { exB3 with owes := false }
def exF1 : FrT := ⟨1, 0, 0, 0, ⟨#[]⟩⟩
def exF2 : FrT := ⟨1, 1, 0, 0, ⟨#[]⟩⟩
def exF3 : FrT := ⟨1, 1, 1, 0, exS⟩
def exF4 : FrT := ⟨1, 1, 0, 1, ⟨#[]⟩⟩
theorem toL_nil : (⟨#[]⟩ : ByteArray).toList = [] := by rw [Lib.toList_data]
theorem rf1 : RightF exF1 := by unfold RightF exF1; exact ⟨by decide, by decide, by decide, by decide, by decide, by decide, by decide, by decide, by decide, fun _ => toL_nil⟩
theorem rf2 : RightF exF2 := by unfold RightF exF2; exact ⟨by decide, by decide, by decide, by decide, by decide, by decide, by decide, by decide, by decide, fun _ => toL_nil⟩
theorem rf3 : RightF exF3 := by unfold RightF exF3; exact ⟨by decide, by decide, by decide, by decide, by decide, by decide, by decide, by decide, by decide, fun h => by simp at h⟩
theorem ex1 : exA0.send exS = (exA1, 0) := rfl
theorem ex2 : exA1.outs = (exA2, [exF1]) := rfl
theorem ex3 : exA0.take exF1 = (exB1, [], false) := by
  unfold LkS.take
  rw [if_neg (fun h => h.elim (fun h => h rf1) (by decide)), if_pos (by decide)]
  rfl
theorem ex4 : exB1.outs = (exB2, [exF2]) := rfl
theorem ex5 : exA2.take exF2 = (exA3, [], false) := by
  unfold LkS.take
  rw [if_neg (fun h => h.elim (fun h => h rf2) (by decide)), if_neg (by decide)]
  rfl
theorem ex6 : exA3.outs = (exA4, [exF3]) := rfl
theorem ex7 : exB2.take exF3 = (exB3, [exS], false) := by
  unfold LkS.take
  rw [if_neg (fun h => h.elim (fun h => h rf3) (by decide)), if_neg (by decide)]
  rfl
theorem ex8 : exB3.take exF3 = (exB3, [], false) := by
  unfold LkS.take
  rw [if_neg (fun h => h.elim (fun h => h rf3) (by decide)), if_neg (by decide)]
  rfl
theorem ex9 : exB3.outs = (exB5, [exF4]) := rfl
/-- What a call of Out answers, here. -/
theorem outs_one {w b g : Nat} {W : World} {l l' : LkS} {V : Value} {x : FrT} (h : LkIs W b g l V) (hl : l.Ok) (e : l.outs = (l', [x])) : Calls Try.prog 16 #[.pointer (some ⟨g, 0, none⟩)] W (OutPost W b g V (l', [x])) := by
  have := outs_calls b g l V W h hl
  rw [e] at this
  exact this
theorem take_one {b g : Nat} {W : World} {l : LkS} {V : Value} {T : LkS × List ByteArray × Bool} (f : FrT) (h : LkIs W b g l V) (hl : l.Ok) (hf : -9223372036854775808 ≤ f.f0) (e : l.take f = T) : Calls Try.prog 18 #[.pointer (some ⟨g, 0, none⟩), .agg #[.int .i64 f.f0, .int .i64 f.f1, .int .i64 f.f2, .int .i64 f.f3, .string f.f4]] W (TakePost W b g V T) := by
  have := take_calls b g l V f W h hl hf
  rw [e] at this
  exact this
theorem okA0 : exA0.Ok := LkS.Ok.begin_ 1
theorem okA1 : exA1.Ok := by have := okA0.send exS; rw [ex1] at this; exact this
theorem okA2 : exA2.Ok := by have := okA1.outs; rw [ex2] at this; exact this
theorem okA3 : exA3.Ok := by have := okA2.take exF2; rw [ex5] at this; exact this
theorem okB1 : exB1.Ok := by have := okA0.take exF1; rw [ex3] at this; exact this
theorem okB2 : exB2.Ok := by have := okB1.outs; rw [ex4] at this; exact this
theorem okB3 : exB3.Ok := by have := okB2.take exF3; rw [ex7] at this; exact this
set_option maxHeartbeats 16000000 in
set_option maxRecDepth 100000 in
theorem examples_calls (w : World) :
    Calls Try.prog 9 #[] w fun e w' => e = .returned (.bool true) ∧ Below w.heap.size w w' := by
  have HN1 : Aside0 (∀ W, Calls Try.prog 13 #[.int .i64 1] W (LNewPost W 1)) := ⟨fun W => new_calls 1 W⟩
  have HN0 : Aside0 (∀ W, Calls Try.prog 13 #[.int .i64 0] W (LNewPost W 0)) := ⟨fun W => new_calls 0 W⟩
  go_enter Try.func9, Try.ntmps9
  go_wp2_with (go_at_call 13; refine (HN1.out _).mono ?_)
  intro e W1 hN
  obtain ⟨hb1, hN⟩ := hN
  rcases hN with ⟨hn, _⟩ | ⟨_, ga, hga, rfl, hA⟩
  · exact absurd hn (by decide)
  have HA1 := Aside0.mk (hA w.heap.size (Nat.le_refl _))
  have HB1 := Aside0.mk hb1
  clear hA hb1
  go_wp2_with (go_at_call 13; refine (HN1.out _).mono ?_)
  intro e W2 hN
  obtain ⟨hb2, hN⟩ := hN
  rcases hN with ⟨hn, _⟩ | ⟨_, gb, hgb, rfl, hB⟩
  · exact absurd hn (by decide)
  have HT2 : Aside0 (Two w W2 ga gb (.slice none 0 0) (.slice none 0 0) exA0 exA0) := ⟨⟨HA1.out.below hb2, hB w.heap.size HB1.out.size, HB1.out.trans (hb2.mono HB1.out.size), fun e => by have := HA1.out.lt; omega, fun k hk => by simp [Value.ownBlock] at hk⟩⟩
  clear hB hb2 hgb hga HA1 HB1
  go_wp2_with (go_at_call 13; refine (HN0.out _).mono ?_)
  intro e W3 hN
  obtain ⟨hb3, hN⟩ := hN
  have hN2 : e = .returned (.tuple #[.pointer none, .int .i64 1]) := hN.elim (fun h => h.2) (fun h => absurd (Or.inl (by decide)) h.1)
  subst hN2
  clear hN
  have HT3 := Aside0.mk (HT2.out.below hb3)
  clear hb3 HT2
  go_wp2_with (go_at_call 15; refine (send_calls w.heap.size ga exA0 _ exS _ HT3.out.A (by decide)).mono ?_)
  rw [ex1]
  intro e W4 hS
  obtain ⟨rfl, Va, hA, hO⟩ := hS
  have HT4 := Aside0.mk (HT3.out.deed hA hO)
  clear hA hO HT3
  go_wp2_with (go_at_call 16; refine (outs_one (w := w.heap.size) HT4.out.A okA1 ex2).mono ?_)
  intro e W5 hS
  obtain ⟨v5, rfl, hR, hA, hO⟩ := hS
  have HT5 := Aside0.mk (HT4.out.deed hA hO)
  obtain ⟨k5, c5, ev, q0, q1, q2, q3, q4⟩ := at_row0 hR
  subst ev
  have HR5 := Aside0.mk hR
  clear hA hO hR
  have q0a : W5.cell? ⟨k5, 0, none⟩ = some (.int .i64 1) := q0
  have q1a : W5.cell? ⟨k5, 1, none⟩ = some (.int .i64 0) := q1
  have q2a : W5.cell? ⟨k5, 2, none⟩ = some (.int .i64 0) := q2
  have q3a : W5.cell? ⟨k5, 3, none⟩ = some (.int .i64 0) := q3
  have q4a : W5.cell? ⟨k5, 4, none⟩ = some (.string ⟨#[]⟩) := q4
  clear q0 q1 q2 q3 q4
  go_wp2_with (go_at_call 18; refine (take_one exF1 HT5.out.B okA0 (by decide) ex3).mono ?_)
  intro e W6 hS
  obtain ⟨A6, c6, rfl, hR, V6, hA, hO⟩ := hS
  have HT6 := Aside0.mk ((HT5.out.symm.deed hA hO).symm)
  clear hA hO q0a q1a q2a q3a q4a
  clear hR
  go_wp2_with (go_at_call 16; refine (outs_one (w := w.heap.size) HT6.out.B okB1 ex4).mono ?_)
  intro e W7 hS
  obtain ⟨v7, rfl, hR, hA, hO⟩ := hS
  have HT7 := Aside0.mk ((HT6.out.symm.deed hA hO).symm)
  obtain ⟨k7, c7, ev, q0, q1, q2, q3, q4⟩ := at_row0 hR
  subst ev
  have HR7 := Aside0.mk hR
  clear hA hO hR
  have q0a : W7.cell? ⟨k7, 0, none⟩ = some (.int .i64 1) := q0
  have q1a : W7.cell? ⟨k7, 1, none⟩ = some (.int .i64 1) := q1
  have q2a : W7.cell? ⟨k7, 2, none⟩ = some (.int .i64 0) := q2
  have q3a : W7.cell? ⟨k7, 3, none⟩ = some (.int .i64 0) := q3
  have q4a : W7.cell? ⟨k7, 4, none⟩ = some (.string ⟨#[]⟩) := q4
  clear q0 q1 q2 q3 q4
  go_wp2_with (go_at_call 18; refine (take_one exF2 HT7.out.A okA2 (by decide) ex5).mono ?_)
  intro e W8 hS
  obtain ⟨A8, c8, rfl, hR, V8, hA, hO⟩ := hS
  have HT8 := Aside0.mk (HT7.out.deed hA hO)
  clear hA hO q0a q1a q2a q3a q4a
  clear hR
  go_wp2_with (go_at_call 16; refine (outs_one (w := w.heap.size) HT8.out.A okA3 ex6).mono ?_)
  intro e W9 hS
  obtain ⟨v9, rfl, hR, hA, hO⟩ := hS
  have HT9 := Aside0.mk (HT8.out.deed hA hO)
  obtain ⟨k9, c9, ev, q0, q1, q2, q3, q4⟩ := at_row0 hR
  subst ev
  have HR9 := Aside0.mk hR
  clear hA hO hR
  have q0a : W9.cell? ⟨k9, 0, none⟩ = some (.int .i64 1) := q0
  have q1a : W9.cell? ⟨k9, 1, none⟩ = some (.int .i64 1) := q1
  have q2a : W9.cell? ⟨k9, 2, none⟩ = some (.int .i64 1) := q2
  have q3a : W9.cell? ⟨k9, 3, none⟩ = some (.int .i64 0) := q3
  have q4a : W9.cell? ⟨k9, 4, none⟩ = some (.string ⟨#[120]⟩) := q4
  clear q0 q1 q2 q3 q4
  go_wp2_with (go_at_call 18; refine (take_one exF3 HT9.out.B okB2 (by decide) ex7).mono ?_)
  intro e W10 hS
  obtain ⟨A10, c10, rfl, hR, V10, hA, hO⟩ := hS
  have HT10 := Aside0.mk ((HT9.out.symm.deed hA hO).symm)
  have hR9 := hO.row HT9.out.B rfl HR9.out (by decide) (by decide)
  clear hA hO q0a q1a q2a q3a q4a
  have HR9b := Aside0.mk hR9
  have HRs := Aside0.mk hR
  obtain ⟨k9', c9', ev, q0, q1, q2, q3, q4⟩ := at_row0 hR9
  injection ev with ev1 ev2 ev3
  injection ev1 with ev1
  injection ev1 with ev1 _ _
  subst ev1
  subst ev3
  have q0a : W10.cell? ⟨k9, 0, none⟩ = some (.int .i64 1) := q0
  have q1a : W10.cell? ⟨k9, 1, none⟩ = some (.int .i64 1) := q1
  have q2a : W10.cell? ⟨k9, 2, none⟩ = some (.int .i64 1) := q2
  have q3a : W10.cell? ⟨k9, 3, none⟩ = some (.int .i64 0) := q3
  have q4a : W10.cell? ⟨k9, 4, none⟩ = some (.string ⟨#[120]⟩) := q4
  clear q0 q1 q2 q3 q4 hR hR9 ev2
  go_wp2_with (go_at_call 18; refine (take_one exF3 HT10.out.B okB3 (by decide) ex8).mono ?_)
  intro e W11 hS
  obtain ⟨A11, c11, rfl, hR, V11, hA, hO⟩ := hS
  have HT11 := Aside0.mk ((HT10.out.symm.deed hA hO).symm)
  have HRs2 := Aside0.mk (hO.row HT10.out.B rfl HRs.out (by decide) (by decide))
  clear hA hO q0a q1a q2a q3a q4a
  clear hR
  go_wp2_with (go_at_call 16; refine (outs_one (w := w.heap.size) HT11.out.B okB3 ex9).mono ?_)
  intro e W12 hS
  obtain ⟨v12, rfl, hR, hA, hO⟩ := hS
  have HT12 := Aside0.mk ((HT11.out.symm.deed hA hO).symm)
  have HRs3 := Aside0.mk (hO.row HT11.out.B rfl HRs2.out (by decide) (by decide))
  obtain ⟨k12, c12, ev, q0, q1, q2, q3, q4⟩ := at_row0 hR
  subst ev
  have HR12 := Aside0.mk hR
  clear hA hO hR
  have q0a : W12.cell? ⟨k12, 0, none⟩ = some (.int .i64 1) := q0
  have q1a : W12.cell? ⟨k12, 1, none⟩ = some (.int .i64 1) := q1
  have q2a : W12.cell? ⟨k12, 2, none⟩ = some (.int .i64 0) := q2
  have q3a : W12.cell? ⟨k12, 3, none⟩ = some (.int .i64 1) := q3
  have q4a : W12.cell? ⟨k12, 4, none⟩ = some (.string ⟨#[]⟩) := q4
  clear q0 q1 q2 q3 q4
  obtain ⟨ks, cs, es, _, _, _⟩ := Kd.R_form HRs3.out (by decide)
  injection es with es1 es2 es3
  subst es1
  subst es3
  have hs0 : W12.cell? ⟨ks, 0, none⟩ = some (.string ⟨#[120]⟩) := by
    obtain ⟨ad, e, h⟩ := Kd.at_string (Kd.R_reads' HRs3.out).2.2 0 (by decide) (by decide)
    injection e with e
    subst e
    exact h
  have HWT : Aside0 (Calls Try.prog 12 #[.pointer (some ⟨ga, 0, none⟩)] W12 fun e w' => e = .returned (.int .i64 1) ∧ w' = W12) := ⟨waiting_calls w.heap.size ga exA4 _ W12 HT12.out.A⟩
  go_wp2_with (go_at_call 12; refine HWT.out.mono ?_; rintro e W13 ⟨rfl, rfl⟩)
  go_ret
  exact ⟨rfl, HT12.out.Bl⟩

end Go.Proofs.Ytdpogggajdfedaa.P
