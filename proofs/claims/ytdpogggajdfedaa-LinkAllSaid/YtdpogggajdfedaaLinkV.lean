import Derived.Test.YtdpogggajdfedaaLinkU
import Derived.Outline
import Derived.Laws.BitsAllLaws
import Derived.WalkSpells
import Derived.StillTailTactics
namespace Go.Proofs.Ytdpogggajdfedaa.P
open Go.RowKit Go.Proofs.YtdpogggajdfedaaW.PrintWords Go.Proofs.YtdpogggajdfedaaW.PrintLast Go.Proofs.YtdpogggajdfedaaW.PrintMore
attribute [local go_sem] max2_int min2_int max_two min_two max_three min_three max_four min_four
set_option linter.unusedVariables false
set_option linter.unusedSimpArgs false
theorem InvP.size {n m : Nat} {x : PaM} (h : InvP n x) (h1 : ∀ w, w < 2 → (x.way w).length ≤ 8 * m) (h2 : ∀ w, w < 2 → (x.sent w).length ≤ m) : InvP m x := ⟨h.en, h.fr, h.ok, h1, h2⟩
structure InvR (n : Nat) (x : PaM) : Prop where
  p : InvP n x
  q : InvQ x
theorem InvR.tick1 {n : Nat} {x : PaM} (h : InvR n x) {w : Nat} (hw : w < 2) : InvR n (x.turn (sTurn 2 w)) := by
  refine ⟨(h.p.turn _).size ?_ ?_, h.q.turn h.p _⟩
  · rw [turn_tk1 _ hw]; exact h.p.wl
  · rw [turn_tk1 _ hw]; exact h.p.sl
theorem InvR.out1 {n : Nat} {x : PaM} (h : InvR n x) {w : Nat} (hw : w < 2) : InvR (n + 1) (x.turn (sTurn 1 w)) := ⟨h.p.turn _, h.q.turn h.p _⟩
theorem InvR.come1 {n : Nat} {x : PaM} (h : InvR n x) {w : Nat} (hw : w < 2) (hn : x.way w ≠ []) : InvR n (x.turn (sTurn 3 w)) := by
  obtain ⟨c1, c2, c3, c4, c5, c6⟩ := come_lo (x := x) (k := 3) (i := 0) hw
  refine ⟨(h.p.turn _).size ?_ ?_, h.q.turn h.p _⟩
  · rw [turn_come1 _ hw hn]
    refine both hw ?_ ?_
    · have := h.p.wl w hw; omega
    · rw [c4]; exact h.p.wl _ (by omega)
  · rw [turn_come1 _ hw hn, c2]; exact h.p.sl
theorem InvR.stg1 {n : Nat} {x : PaM} (h : InvR n x) : ∀ j, j ≤ 2 → InvR (n + j) (stg x j)
  | 0, _ => h
  | j + 1, hj => ((InvR.stg1 h j (by omega)).tick1 (by omega)).out1 (by omega)
theorem InvR.dl1 {n w : Nat} (hw : w < 2) : ∀ (k : Nat) {x : PaM}, InvR n x → (x.way w).length = k → InvR n (dl w k x)
  | 0, x, h, _ => h
  | k + 1, x, h, hl => by
    have hn : x.way w ≠ [] := fun e => by rw [e] at hl; simp at hl
    unfold dl
    refine InvR.dl1 hw k (h.come1 hw hn) ?_
    rw [turn_come1 _ hw hn]
    unfold PaM.come PaM.gone
    rw [if_neg (by decide), if_neg (by decide)]
    show (upd x.way w _ w).length = _
    rw [upd_same]
    simp only [List.take_zero, List.nil_append, List.length_drop]
    omega
theorem InvR.del1 {n : Nat} {x : PaM} (h : InvR n x) : ∀ j, j ≤ 2 → InvR n (del x j)
  | 0, _ => h
  | j + 1, hj => InvR.dl1 (by omega) _ (InvR.del1 h j (by omega)) rfl
theorem InvR.round {n : Nat} {x : PaM} (h : InvR n x) : InvR n (roundM x) := by
  have h2 := (h.stg1 2 (Nat.le_refl _)).del1 2 (Nat.le_refl _)
  refine ⟨h2.p.size (fun w hw => ?_) (fun w hw => ?_), h2.q⟩
  · show ((roundM x).way w).length ≤ _
    rw [(round_is x hw).2.1]
    exact Nat.zero_le _
  · show ((roundM x).sent w).length ≤ _
    rw [(round_is x hw).2.2]
    exact h.p.sl w hw
theorem InvR.rounds {n : Nat} {x : PaM} (h : InvR n x) : ∀ k, InvR n (roundsM x k)
  | 0 => h
  | k + 1 => (InvR.rounds h k).round
theorem outs_right {e eo : Int} {l lo : LkS} {sent sento told : List ByteArray} (hE : EndI e eo l lo sent sento told) (he : 0 < e ∧ e ≤ 100) (heo : 0 < eo ∧ eo ≤ 100) (hs : sent.length ≤ 100000) (hso : sento.length ≤ 100000) (hz : ∀ s, s ∈ sent → s.size ≤ 100000) {f : FrT} (hf : f ∈ l.outs.2) : RightF f := by
  have hF := hE.outs.2 f hf
  obtain ⟨h0, h1, h3, h2⟩ := outs_mem hf
  have ht0 := hE.t0
  have htl := hE.tl
  have e0 := hF.e0
  have e1 := hF.e1
  have s0 := hF.s0
  have s1 := hF.s1
  refine ⟨by omega, by omega, by omega, by omega, by omega, by omega, by omega, by omega, ?_, ?_⟩
  · rcases h2 with ⟨_, h4⟩ | ⟨_, j, b, _, hb, _, h2, h4⟩
    · rw [h4]; decide
    · have := hz b.f0 (List.mem_of_getElem? (hE.body hb))
      rw [h4]; omega
  · intro h5
    rcases h2 with ⟨_, h4⟩ | ⟨_, j, b, _, hb, _, h2, h4⟩
    · rw [h4]; exact toL_nil
    · have := hE.a0; omega
theorem eOf_le {w : Nat} (hw : w < 2) : 0 < eOf w ∧ eOf w ≤ 100 := by unfold eOf; omega
theorem tick_end {e eo : Int} {l lo : LkS} {sent sento told : List ByteArray} (hE : EndI e eo l lo sent sento told) : EndI e eo l.tick lo sent sento told := by
  obtain ⟨t1, t2, t3, t4⟩ := tick_rest l
  exact hE.flags t1 t2 t3 t4 (tick_wait _)
theorem InvR.right {n : Nat} {x : PaM} (h : InvR n x) (hn : n ≤ 100000) {w : Nat} (hw : w < 2) : ∀ f, f ∈ (x.l w).tick.outs.2 → RightF f := fun f hf =>
  outs_right (tick_end (h.p.en w hw)) (eOf_le hw) (eOf_le (by omega)) (Nat.le_trans (h.p.sl w hw) hn) (Nat.le_trans (h.p.sl _ (by omega)) hn) (h.q.z w hw) hf
/-! ### Who knows whom -/
theorem meet_peer {l : LkS} {e : Int} (he : 0 < e) (hp : l.peer = 0 ∨ l.peer = e) : (l.meet e).peer = e := by
  unfold LkS.meet
  rcases hp with hp | hp
  · rw [if_pos (by omega)]
  · rw [if_neg (by omega)]; exact hp
theorem take_peer {l : LkS} {e : Int} {f : FrT} (he : 0 < e) (hp : l.peer = 0 ∨ l.peer = e) (hf : f.f0 = e) : ((l.take f).1.peer = 0 ∨ (l.take f).1.peer = e) ∧ (l.peer = e ∨ RightF f → (l.take f).1.peer = e) ∧ (l.take f).1.epoch = l.epoch := by
  have hm3 : ¬ (l.peer < e ∧ l.peer ≠ 0) := by omega
  obtain ⟨w1, w2, w3, w4, w5⟩ := meet_wa hm3
  have hmp := meet_peer he hp
  unfold LkS.take
  rw [hf]
  split
  · rename_i hc
    refine ⟨hp, fun h => h.elim id (fun h => ?_), rfl⟩
    rcases hc with hc | hc
    · exact absurd h hc
    · omega
  · split
    · exact ⟨.inr hmp, fun _ => hmp, w5⟩
    · obtain ⟨k1, k2, k3, k4⟩ := ackd_wa (l.meet e) f.f3
      obtain ⟨t1, t2, t3, t4, t5⟩ := take1_wa ((l.meet e).ackd f.f3) f
      have : (((l.meet e).ackd f.f3).take1 f).peer = e := by rw [t3, k2, hmp]
      exact ⟨.inr this, fun _ => this, by show (((l.meet e).ackd f.f3).take1 f).epoch = _; rw [t4, k3, w5]⟩
theorem tk_peer {e : Int} (he : 0 < e) : ∀ (fs : List FrT) (l : LkS), (l.peer = 0 ∨ l.peer = e) → (∀ f, f ∈ fs → f.f0 = e) → ((tk l fs).peer = 0 ∨ (tk l fs).peer = e) ∧ ((l.peer = e ∨ ∃ f, f ∈ fs ∧ RightF f) → (tk l fs).peer = e) ∧ (tk l fs).epoch = l.epoch
  | [], l, hp, _ => ⟨hp, fun h => h.elim id (fun ⟨f, hf, _⟩ => by cases hf), rfl⟩
  | f :: fs, l, hp, h => by
    obtain ⟨a1, a2, a3⟩ := take_peer he hp (h f (List.mem_cons_self ..))
    obtain ⟨b1, b2, b3⟩ := tk_peer he fs (l.take f).1 a1 (fun g hg => h g (List.mem_cons_of_mem _ hg))
    refine ⟨b1, fun hx => b2 ?_, b3.trans a3⟩
    rcases hx with hx | ⟨g, hg, hr⟩
    · exact .inl (a2 (.inl hx))
    · rcases List.mem_cons.1 hg with rfl | hg
      · exact .inl (a2 (.inr hr))
      · exact .inr ⟨g, hg, hr⟩
theorem tk_owes {e : Int} (he : 0 < e) (fs : List FrT) (l : LkS) (g : FrT) (hp : l.peer = 0 ∨ l.peer = e) (h : ∀ f, f ∈ fs → f.f0 = e) (hg : g.f0 = e) (hr : RightF g) (h1 : g.f1 ≠ l.epoch) : (tk l (fs ++ [g])).owes = true := by
  obtain ⟨a1, _, a3⟩ := tk_peer he fs l hp h
  rw [tk_append]
  generalize tk l fs = y at a1 a3
  show (y.take g).1.owes = true
  unfold LkS.take
  rw [if_neg (fun hx => hx.elim (fun hx => hx hr) (fun hx => by omega)), if_pos (by rw [a3]; exact h1)]
theorem tick_outs_peer (l : LkS) : l.tick.outs.1.peer = l.peer ∧ l.tick.outs.1.epoch = l.epoch := by
  obtain ⟨t1, t2, t3, t4⟩ := tick_rest l
  exact ⟨t2, t1⟩
theorem InvR.comes {n : Nat} {x : PaM} (h : InvR n x) {w : Nat} (hw : w < 2) : ∀ f, f ∈ x.way w ++ (x.l (1 - w)).tick.outs.2 → f.f0 = eOf (1 - w) := by
  intro f hf
  rcases List.mem_append.1 hf with hf | hf
  · exact (h.p.fr w hw f hf).e0
  · rw [(outs_mem hf).1, (tick_rest _).1, (h.p.en _ (by omega)).ep]
theorem InvR.known1 {n : Nat} {x : PaM} (h : InvR n x) (hn : n ≤ 100000) {w : Nat} (hw : w < 2) : ((roundM x).l (1 - w)).peer ≠ 0 ∨ ((roundM x).l w).owes = true := by
  have ho : 1 - w < 2 := by omega
  have hww : 1 - (1 - w) = w := by omega
  obtain ⟨p1, p2⟩ := tick_outs_peer (x.l w)
  obtain ⟨q1, q2⟩ := tick_outs_peer (x.l (1 - w))
  by_cases hp : (x.l (1 - w)).peer = 0
  · right
    rw [(round_is x hw).1]
    have hpt : (x.l (1 - w)).tick.peer = 0 := by rw [(tick_rest _).2.1]; exact hp
    have hd : (x.l (1 - w)).tick.due = [] := by unfold LkS.due; rw [if_pos hpt]
    have hg : (x.l (1 - w)).tick.outs.2 = [⟨(x.l (1 - w)).tick.epoch, (x.l (1 - w)).tick.peer, 0, (x.l (1 - w)).tick.taken, ⟨#[]⟩⟩] := by
      show (if (x.l (1 - w)).tick.due = [] ∧ (x.l (1 - w)).tick.owes = true then _ else _) = _
      rw [if_pos ⟨hd, tick_owes (.inr hp)⟩]
    have hR := h.right hn ho
    have hC := h.comes hw
    rw [hg] at hR hC ⊢
    refine tk_owes (eOf_pos (1 - w)) _ _ _ ?_ (fun f hf => hC f (List.mem_append_left _ hf)) (hC _ (by simp)) (hR _ (by simp)) ?_
    · rw [p1]; exact (h.p.en w hw).pr
    · show (x.l (1 - w)).tick.peer ≠ _
      rw [hpt, p2, (h.p.en w hw).ep]
      have := eOf_pos w
      omega
  · left
    have := (round_is x ho).1
    rw [hww] at this
    have hC := h.comes ho
    rw [hww] at hC
    have hpr := (h.p.en _ ho).pr
    rw [hww] at hpr
    have hpe : (x.l (1 - w)).peer = eOf w := hpr.elim (fun e => absurd e hp) id
    rw [this, (tk_peer (eOf_pos w) _ _ (by rw [q1]; exact hpr) hC).2.1 (.inl (by rw [q1]; exact hpe))]
    have := eOf_pos w
    omega
theorem InvR.known2 {n : Nat} {x : PaM} (h : InvR n x) (hn : n ≤ 100000) {w : Nat} (hw : w < 2) (hk : (x.l (1 - w)).peer ≠ 0 ∨ (x.l w).owes = true) : ((roundM x).l (1 - w)).peer = eOf w := by
  have ho : 1 - w < 2 := by omega
  have hww : 1 - (1 - w) = w := by omega
  obtain ⟨q1, q2⟩ := tick_outs_peer (x.l (1 - w))
  have := (round_is x ho).1
  rw [hww] at this
  have hC := h.comes ho
  rw [hww] at hC
  have hpr := (h.p.en _ ho).pr
  rw [hww] at hpr
  rw [this]
  refine (tk_peer (eOf_pos w) _ _ (by rw [q1]; exact hpr) hC).2.1 ?_
  rcases hk with hk | hk
  · exact .inl (by rw [q1]; exact hpr.elim (fun e => absurd e hk) id)
  · obtain ⟨f, fs, hf⟩ := List.exists_cons_of_ne_nil (owes_speaks (tick_owes (.inl hk)))
    have hfm : f ∈ (x.l w).tick.outs.2 := by rw [hf]; exact List.mem_cons_self ..
    exact .inr ⟨f, List.mem_append_right _ hfm, h.right hn hw f hfm⟩
theorem rounds_succ (x : PaM) (k : Nat) : roundsM x (k + 1) = roundM (roundsM x k) := rfl
theorem rounds_zero (x : PaM) : roundsM x 0 = x := rfl
/-- Behind two rounds each knows the other. -/
theorem InvR.knows {n : Nat} {x : PaM} (h : InvR n x) (hn : n ≤ 100000) (k : Nat) : ∀ w, w < 2 → ((roundsM x (k + 2)).l w).peer = eOf (1 - w) := by
  induction k with
  | zero =>
    intro w hw
    have ho : 1 - w < 2 := by omega
    have hww : 1 - (1 - w) = w := by omega
    have := h.round.known2 hn ho (h.known1 hn ho)
    rw [hww] at this
    rw [show 0 + 2 = 0 + 1 + 1 from rfl, rounds_succ, rounds_succ, rounds_zero]
    exact this
  | succ k ih =>
    intro w hw
    have ho : 1 - w < 2 := by omega
    have hww : 1 - (1 - w) = w := by omega
    have ih := ih w hw
    have hr := h.rounds (k + 2)
    rw [show k + 1 + 2 = (k + 2) + 1 from rfl, rounds_succ]
    generalize roundsM x (k + 2) = y at ih hr ⊢
    have := hr.known2 hn ho (.inl (by rw [hww, ih]; have := eOf_pos (1 - w); omega))
    rw [hww] at this
    exact this
theorem InvR.know {n : Nat} {x : PaM} (h : InvR n x) (hn : n ≤ 100000) (k w : Nat) (hw : w < 2) : Know (eOf w) (eOf (1 - w)) ((roundsM x (k + 2)).l w) := by
  have hr := h.rounds (k + 2)
  exact ⟨(hr.p.en w hw).ep, h.knows hn k w hw, (hr.p.en w hw).a0, (hr.p.ok w hw).k0, (hr.p.ok w hw).k1⟩
theorem rounds_way (x : PaM) (k w : Nat) (hw : w < 2) : (roundsM x (k + 1)).way w = [] := (round_is (roundsM x k) hw).2.1
theorem rounds_l (x : PaM) (k w : Nat) (hw : w < 2) : (roundsM x (k + 2)).l w = tk ((roundsM x (k + 1)).l w).tick.outs.1 ((roundsM x (k + 1)).l (1 - w)).tick.outs.2 := by
  have := (round_is (roundsM x (k + 1)) hw).1
  rw [rounds_way x k w hw, List.nil_append] at this
  exact this
theorem Rk.mono {l r : LkS} {N M : Nat} (h : Rk l r N) (hm : N ≤ M) : Rk l r M := by
  obtain ⟨n, m, h, o, hn, hk⟩ := h
  exact ⟨n, m, h, o, hn, Nat.le_trans hk hm⟩
theorem InvR.rk {n : Nat} {x : PaM} (h : InvR n x) (hn : n ≤ 100000) (j : Nat) : ∀ w, w < 2 → Rk ((roundsM x (j + 3)).l w) ((roundsM x (j + 3)).l (1 - w)) (71 - j) := by
  induction j with
  | zero =>
    intro w hw
    have ho : 1 - w < 2 := by omega
    have hww : 1 - (1 - w) = w := by omega
    have hr := h.rounds 2
    have k1 := h.know hn 0 w hw
    have k2 := h.know hn 0 (1 - w) ho
    rw [hww] at k2
    have e1 := rounds_l x 1 w hw
    have e2 := rounds_l x 1 (1 - w) ho
    rw [hww] at e2
    rw [show 1 + 2 = 0 + 3 from rfl] at e1 e2
    rw [show 1 + 1 = 2 from rfl] at e1 e2
    rw [show 0 + 2 = 2 from rfl] at k1 k2
    rw [e1, e2]
    generalize roundsM x 2 = y at hr k1 k2 ⊢
    obtain ⟨n1, m1, h1, o1, _⟩ := hr.q.o w hw
    exact Rk.first k1 k2 (by have := eOf_pos w; omega) (by have := eOf_pos (1 - w); omega) (hr.right hn hw) (hr.right hn ho) o1 (by rw [← o1.ln]; exact (hr.p.ok w hw).w)
  | succ j ih =>
    intro w hw
    have ho : 1 - w < 2 := by omega
    have hww : 1 - (1 - w) = w := by omega
    have ih := ih w hw
    have hr := h.rounds (j + 3)
    have k1 := h.know hn (j + 1) w hw
    have k2 := h.know hn (j + 1) (1 - w) ho
    rw [hww] at k2
    have e1 := rounds_l x (j + 2) w hw
    have e2 := rounds_l x (j + 2) (1 - w) ho
    rw [hww] at e2
    rw [show j + 2 + 2 = j + 1 + 3 from rfl, show j + 2 + 1 = j + 3 from rfl] at e1 e2
    rw [show j + 1 + 2 = j + 3 from rfl] at k1 k2
    rw [e1, e2]
    generalize roundsM x (j + 3) = y at hr k1 k2 ih ⊢
    exact Rk.next k1 k2 (by have := eOf_pos w; omega) (by have := eOf_pos (1 - w); omega) (hr.right hn hw) (hr.right hn ho) (ih.mono (by omega))
/-- In the end all is told. -/
theorem InvR.all {n : Nat} {x : PaM} (h : InvR n x) (hn : n ≤ 100000) (w : Nat) (hw : w < 2) : ((roundsM x 100).l w).wait = [] ∧ ((roundsM x 100).told (1 - w)).length = ((roundsM x 100).sent w).length := by
  have ho : 1 - w < 2 := by omega
  have hww : 1 - (1 - w) = w := by omega
  have hr := h.rounds 100
  have hk := h.rk hn 97 w hw
  rw [show 97 + 3 = 100 from rfl] at hk
  generalize roundsM x 100 = y at hr hk ⊢
  have hw0 := Rk.done (hr.p.ok w hw).k0 (hr.p.ok w hw).k1 (hk.mono (by decide))
  refine ⟨hw0, ?_⟩
  have hE := hr.p.en w hw
  have hO := hr.p.en (1 - w) ho
  rw [hww] at hO
  have h1 := hE.al
  have h2 := hE.at_
  have h3 := hO.tl
  have h4 := hO.t0
  rw [hw0] at h1
  simp only [List.length_nil] at h1
  rw [hO.td, List.length_take]
  omega

end Go.Proofs.Ytdpogggajdfedaa.P
