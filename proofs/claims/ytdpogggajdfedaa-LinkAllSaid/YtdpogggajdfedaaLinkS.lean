import Derived.Test.YtdpogggajdfedaaLinkR
import Derived.Outline
import Derived.Laws.BitsAllLaws
import Derived.WalkSpells
import Derived.StillTailTactics
namespace Go.Proofs.Ytdpogggajdfedaa.P
open Go.RowKit Go.Proofs.YtdpogggajdfedaaW.PrintWords Go.Proofs.YtdpogggajdfedaaW.PrintLast Go.Proofs.YtdpogggajdfedaaW.PrintMore
attribute [local go_sem] max2_int min2_int max_two min_two max_three min_three max_four min_four
set_option linter.unusedVariables false
set_option linter.unusedSimpArgs false
theorem pick60 : pickN 0 6 = 0 ∧ pickN 1 6 = 1 ∧ pickN 2 6 = 2 ∧ pickN 3 6 = 3 := by decide
theorem pick_w {w : Nat} (hw : w < 2) : pickN (w : Int) 2 = w := by
  rcases two01 hw with rfl | rfl <;> decide
/-- A turn keeps it. -/
theorem InvQ.turn {n : Nat} {x : PaM} (h : InvP n x) (q : InvQ x) (t : TurnT) : InvQ (x.turn t) := by
  have hw2 : pickN t.f1 2 < 2 := pickN_lt _ _ (by decide)
  unfold PaM.turn
  generalize hw : pickN t.f1 2 = w at hw2 ⊢
  have hne : 1 - w ≠ w := by omega
  have ho : 1 - w < 2 := by omega
  have hww : 1 - (1 - w) = w := by omega
  have hE := h.en w hw2
  have hE2 := h.en (1 - w) ho
  rw [hww] at hE2
  obtain ⟨n1, m1, h1, o1, f1⟩ := q.o w hw2
  obtain ⟨n2, m2, h2, o2, f2⟩ := q.o (1 - w) ho
  rw [hww] at o2 f2
  -- a deed of end w that takes nothing, what is on the way to w stays
  have deed : ∀ (y : PaM) (n' m' : Nat), OutI (y.l w) (x.l (1 - w)).taken n' m' h1 → y.l (1 - w) = x.l (1 - w) → (y.l w).taken = (x.l w).taken → (∀ f, f ∈ y.way w → f ∈ x.way w) → (∀ f, f ∈ y.way (1 - w) → f.f2 ≤ (y.l w).acked + (m' : Int)) → (∀ s, s ∈ y.sent w → s.size ≤ 100000) → y.sent (1 - w) = x.sent (1 - w) → InvQ y := by
    intro y n' m' a1 a2 a3 a4 a5 a6 a7
    refine ⟨both hw2 ⟨n', m', h1, by rw [a2]; exact a1, a5⟩ ⟨n2, m2, h2, by rw [hww, a3, a2]; exact o2, fun f hf => ?_⟩, both hw2 a6 ?_⟩
    · rw [hww] at hf
      rw [a2]
      exact f2 f (a4 f hf)
    · rw [a7]; exact q.z _ ho
  split
  · rename_i hk
    obtain ⟨n', o'⟩ := o1.send t.f3
    refine deed _ n' m1 (by rw [show (x.sendM w t.f3).l w = _ from upd_same _ _ _]; exact o') (upd_ne _ _ hne) ?_ (fun _ hf => hf) (fun f hf => ?_) ?_ ?_
    · rw [show (x.sendM w t.f3).l w = _ from upd_same _ _ _]
      unfold LkS.send
      split
      · rfl
      · split <;> rfl
    · rw [show (x.sendM w t.f3).l w = _ from upd_same _ _ _]
      have : ((x.l w).send t.f3).1.acked = (x.l w).acked := by
        unfold LkS.send
        split
        · rfl
        · split <;> rfl
      rw [this]
      exact f1 f hf
    · intro s hs
      have hs : s ∈ (if ((x.l w).send t.f3).2 = 0 then upd x.sent w (x.sent w ++ [t.f3]) else x.sent) w := hs
      split at hs
      · rename_i hc
        rw [upd_same] at hs
        rcases List.mem_append.1 hs with hs | hs
        · exact q.z _ hw2 s hs
        · obtain rfl := List.mem_singleton.1 hs
          unfold LkS.send at hc
          split at hc
          · exact absurd (show (3 : Int) = 0 from hc) (by decide)
          · omega
      · exact q.z _ hw2 s hs
    · show (if ((x.l w).send t.f3).2 = 0 then upd x.sent w (x.sent w ++ [t.f3]) else x.sent) (1 - w) = _
      split
      · exact upd_ne _ _ hne
      · rfl
  · split
    · have e1 : (x.outM w).l w = (x.l w).outs.1 := upd_same _ _ _
      have e2 : (x.outM w).way (1 - w) = x.way (1 - w) ++ (x.l w).outs.2 := upd_same _ _ _
      have e3 : (x.outM w).way w = x.way w := upd_ne _ _ (Ne.symm hne)
      have hm := o1.m8
      have hmn := o1.mn
      by_cases hp : (x.l w).peer = 0
      · obtain ⟨z1, z2⟩ := outs_nopeer hp
        refine deed _ n1 m1 (by rw [e1]; exact o1.congr z1 rfl) (upd_ne _ _ hne) (by rw [e1]; rfl) (fun f hf => by rw [← e3]; exact hf) (fun f hf => ?_) (q.z _ hw2) rfl
        rw [e2] at hf
        rw [e1]
        show f.f2 ≤ (x.l w).acked + _
        rcases List.mem_append.1 hf with hf | hf
        · exact f1 f hf
        · rw [z2 f hf]; have := hE.a0; omega
      · refine deed _ n1 (min 8 n1) (by rw [e1]; exact o1.outs hp) (upd_ne _ _ hne) (by rw [e1]; rfl) (fun f hf => by rw [← e3]; exact hf) (fun f hf => ?_) (q.z _ hw2) rfl
        rw [e2] at hf
        rw [e1]
        show f.f2 ≤ (x.l w).acked + _
        rcases List.mem_append.1 hf with hf | hf
        · have := f1 f hf; omega
        · exact o1.outs_le hE.a0 hf
    · split
      · have e1 : (x.tickM w).l w = (x.l w).tick := upd_same _ _ _
        obtain ⟨t1, t2, t3, t4⟩ := tick_rest (x.l w)
        exact deed _ n1 m1 (by rw [e1]; exact o1.tick) (upd_ne _ _ hne) (by rw [e1, t4]) (fun _ hf => hf) (fun f hf => by rw [e1, t3]; exact f1 f hf) (q.z _ hw2) rfl
      · split
        · exact q
        · rename_i hn
          generalize hi : pickN t.f2 (x.way w).length = i
          have hi2 : i < (x.way w).length := by rw [← hi]; exact pickN_lt _ _ (List.length_pos_iff.mpr hn)
          generalize pickN t.f0 6 = k
          obtain ⟨c1, c2, c3, c4, c5, c6⟩ := come_lo (x := x) (k := k) (i := i) hw2
          by_cases hk : k = 4
          · have e1 : (x.come w k i).l w = x.l w := by
              unfold PaM.come PaM.gone
              rw [if_pos hk]
              split <;> rfl
            exact deed _ n1 m1 (by rw [e1]; exact o1) c1 (by rw [e1]) c5 (fun f hf => by rw [e1]; rw [c4] at hf; exact f1 f hf) (by rw [c2]; exact q.z _ hw2) (by rw [c2])
          · have e1 : (x.come w k i).l w = ((x.l w).take (x.frame w i)).1 := by
              unfold PaM.come
              rw [if_neg hk]
              exact upd_same _ _ _
            have hfm := x.frame_mem hi2
            have hF := h.fr w hw2 _ hfm
            obtain ⟨⟨c, hc, o3, ha⟩, htk⟩ := o1.take hE (eOf_pos _) hF
            have hfl := f2 _ hfm
            refine ⟨both hw2 ⟨n1 - c, m1 - c, h1 - c, by rw [c1, e1]; exact o3, fun f hf => ?_⟩ ?_, by rw [c2]; exact q.z⟩
            · rw [c4] at hf
              rw [e1, ha]
              have := f1 f hf
              have := o1.hm
              omega
            · rw [hww, c1, e1]
              rcases htk with e | ⟨e, e'⟩
              · exact ⟨n2, m2, h2, by rw [e]; exact o2, fun f hf => f2 f (c5 f hf)⟩
              · have hlt := o2.lt
                refine ⟨n2, m2, h2 + 1, ⟨o2.ln, by rw [e]; omega, ?_, o2.m8, o2.mn, o2.f⟩, fun f hf => f2 f (c5 f hf)⟩
                omega
/-! ### Rounds in which all comes -/
def sTurn (k w : Nat) : TurnT := ⟨(k : Int), (w : Int), 0, ⟨#[]⟩⟩
theorem turn_tk1 (x : PaM) {w : Nat} (hw : w < 2) : x.turn (sTurn 2 w) = x.tickM w := by
  unfold PaM.turn sTurn
  dsimp only
  rw [pick_w hw, show pickN ((2 : Nat) : Int) 6 = 2 from by decide, if_neg (by decide), if_neg (by decide), if_pos rfl]
theorem turn_out1 (x : PaM) {w : Nat} (hw : w < 2) : x.turn (sTurn 1 w) = x.outM w := by
  unfold PaM.turn sTurn
  dsimp only
  rw [pick_w hw, show pickN ((1 : Nat) : Int) 6 = 1 from by decide, if_neg (by decide), if_pos rfl]
theorem pick0 {n : Nat} (h : 0 < n) : pickN 0 n = 0 := by
  unfold pickN
  rw [if_neg (by decide), Int.zero_emod]
  rfl
theorem turn_come1 (x : PaM) {w : Nat} (hw : w < 2) (hn : x.way w ≠ []) : x.turn (sTurn 3 w) = x.come w 3 0 := by
  unfold PaM.turn sTurn
  dsimp only
  rw [pick_w hw, show pickN ((3 : Nat) : Int) 6 = 3 from by decide, if_neg (by decide), if_neg (by decide), if_neg (by decide), if_neg hn, pick0 (List.length_pos_iff.mpr hn)]
def stg (x : PaM) : Nat → PaM
  | 0 => x
  | j + 1 => ((stg x j).turn (sTurn 2 j)).turn (sTurn 1 j)
def dl (w : Nat) : Nat → PaM → PaM
  | 0, x => x
  | k + 1, x => dl w k (x.turn (sTurn 3 w))
def del (x : PaM) : Nat → PaM
  | 0 => x
  | j + 1 => dl j ((del x j).way j).length (del x j)
def roundM (x : PaM) : PaM := del (stg x 2) 2
def roundsM (x : PaM) : Nat → PaM
  | 0 => x
  | k + 1 => roundM (roundsM x k)
/-- Frames come, one behind the other. -/
def tk (l : LkS) (fs : List FrT) : LkS := fs.foldl (fun l f => (l.take f).1) l
theorem tk_append (l : LkS) (fs gs : List FrT) : tk l (fs ++ gs) = tk (tk l fs) gs := List.foldl_append
theorem dl_is {w : Nat} (hw : w < 2) : ∀ (k : Nat) (x : PaM), (x.way w).length = k → (dl w k x).l w = tk (x.l w) (x.way w) ∧ (dl w k x).l (1 - w) = x.l (1 - w) ∧ (dl w k x).way w = [] ∧ (dl w k x).way (1 - w) = x.way (1 - w) ∧ (dl w k x).sent = x.sent
  | 0, x, h => by
    have h0 := List.eq_nil_of_length_eq_zero h
    refine ⟨?_, rfl, h0, rfl, rfl⟩
    rw [h0]
    rfl
  | k + 1, x, h => by
    have hn : x.way w ≠ [] := fun e => by rw [e] at h; simp at h
    have hne : 1 - w ≠ w := by omega
    unfold dl
    rw [turn_come1 x hw hn]
    obtain ⟨f, fs, hf⟩ := List.exists_cons_of_ne_nil hn
    have e1 : (x.come w 3 0).l w = ((x.l w).take f).1 := by
      unfold PaM.come
      rw [if_neg (by decide)]
      show upd x.l w ((x.l w).take (x.frame w 0)).1 w = _
      rw [upd_same]
      unfold PaM.frame
      rw [hf]
      rfl
    have e2 : (x.come w 3 0).way w = fs := by
      unfold PaM.come PaM.gone
      rw [if_neg (by decide), if_neg (by decide)]
      show upd x.way w _ w = _
      rw [upd_same, hf]
      rfl
    obtain ⟨c1, c2, c3, c4, c5, c6⟩ := come_lo (x := x) (k := 3) (i := 0) hw
    have hl : ((x.come w 3 0).way w).length = k := by rw [e2]; rw [hf] at h; simpa using h
    obtain ⟨r1, r2, r3, r4, r5⟩ := dl_is hw k (x.come w 3 0) hl
    refine ⟨?_, by rw [r2, c1], r3, by rw [r4, c4], by rw [r5, c2]⟩
    rw [r1, e1, e2, hf]
    rfl
theorem round_is (x : PaM) {w : Nat} (hw : w < 2) : (roundM x).l w = tk (x.l w).tick.outs.1 (x.way w ++ (x.l (1 - w)).tick.outs.2) ∧ (roundM x).way w = [] ∧ (roundM x).sent = x.sent := by
  have hs : stg x 2 = (((x.tickM 0).outM 0).tickM 1).outM 1 := by
    unfold stg stg stg
    rw [turn_tk1 _ (by decide), turn_out1 _ (by decide), turn_tk1 _ (by decide), turn_out1 _ (by decide)]
  have l0 : (stg x 2).l 0 = (x.l 0).tick.outs.1 := by rw [hs]; simp [PaM.tickM, PaM.outM, upd]
  have l1 : (stg x 2).l 1 = (x.l 1).tick.outs.1 := by rw [hs]; simp [PaM.tickM, PaM.outM, upd]
  have w0 : (stg x 2).way 0 = x.way 0 ++ (x.l 1).tick.outs.2 := by rw [hs]; simp [PaM.tickM, PaM.outM, upd]
  have w1 : (stg x 2).way 1 = x.way 1 ++ (x.l 0).tick.outs.2 := by rw [hs]; simp [PaM.tickM, PaM.outM, upd]
  have s0 : (stg x 2).sent = x.sent := by rw [hs]; simp [PaM.tickM, PaM.outM]
  unfold roundM
  generalize stg x 2 = y at l0 l1 w0 w1 s0
  obtain ⟨a1, a2, a3, a4, a5⟩ := dl_is (w := 0) (by decide) _ y rfl
  have e1 : del y 1 = dl 0 (y.way 0).length y := rfl
  rw [← e1] at a1 a2 a3 a4 a5
  generalize del y 1 = z at a1 a2 a3 a4 a5 e1
  obtain ⟨b1, b2, b3, b4, b5⟩ := dl_is (w := 1) (by decide) _ z rfl
  have e2 : del y 2 = dl 1 (z.way 1).length z := by rw [e1]; rfl
  rw [← e2] at b1 b2 b3 b4 b5
  simp only [Nat.sub_zero, Nat.sub_self] at a2 a4 b2 b4
  rcases two01 hw with rfl | rfl
  · exact ⟨by rw [b2, a1, l0, w0], by rw [b4, a3], by rw [b5, a5, s0]⟩
  · exact ⟨by rw [b1, a2, a4, l1, w1], b3, by rw [b5, a5, s0]⟩

end Go.Proofs.Ytdpogggajdfedaa.P
