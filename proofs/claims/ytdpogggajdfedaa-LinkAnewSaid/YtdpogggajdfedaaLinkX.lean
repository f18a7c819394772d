import Derived.Test.YtdpogggajdfedaaLinkN
import Derived.Outline
import Derived.Laws.BitsAllLaws
import Derived.WalkSpells
import Derived.StillTailTactics
namespace Go.Proofs.Ytdpogggajdfedaa.P
open Go.RowKit Go.Proofs.YtdpogggajdfedaaW.PrintWords Go.Proofs.YtdpogggajdfedaaW.PrintLast Go.Proofs.YtdpogggajdfedaaW.PrintMore
attribute [local go_sem] max2_int min2_int max_two min_two max_three min_three max_four min_four
set_option linter.unusedVariables false
set_option linter.unusedSimpArgs false
/-! ### An end that begins again -/
theorem take_good {l : LkS} {f : FrT} (hr : RightF f) (h : ¬ f.f0 < l.peer) : l.take f = (if f.f1 ≠ l.epoch then ({ l.meet f.f0 with owes := true }, [], decide (l.peer < f.f0 ∧ l.peer ≠ 0)) else (((l.meet f.f0).ackd f.f3).take1 f, (if f.f2 = ((l.meet f.f0).ackd f.f3).taken + 1 then [f.f4] else []), decide (l.peer < f.f0 ∧ l.peer ≠ 0))) :=
  if_neg (fun e => e.elim (fun e => e hr) h)
theorem take_meet {l : LkS} {f : FrT} (hr : RightF f) (hlt : l.peer < f.f0) : (l.take f).1 = ((l.meet f.f0).take f).1 ∧ (l.take f).2.1 = ((l.meet f.f0).take f).2.1 := by
  have hp : (l.meet f.f0).peer = f.f0 := by unfold LkS.meet; rw [if_pos hlt]
  have hm : (l.meet f.f0).meet f.f0 = l.meet f.f0 := by
    generalize l.meet f.f0 = y at hp
    unfold LkS.meet
    rw [if_neg (by omega)]
  have he := meet_epoch l f.f0
  rw [take_good hr (show ¬ f.f0 < l.peer by omega), take_good (l := l.meet f.f0) hr (by omega), hm, he]
  by_cases hq : f.f1 ≠ l.epoch
  · rw [if_pos hq, if_pos hq]
    exact ⟨rfl, rfl⟩
  · rw [if_neg hq, if_neg hq]
    exact ⟨rfl, rfl⟩
/-- A frame to another epoch tells nothing. -/
theorem EndI.other {e eo : Int} {l lo : LkS} {sent sento told : List ByteArray} (h : EndI e eo l lo sent sento told) (he : 0 < eo) {f : FrT} (h0 : f.f0 = eo) (h1 : f.f1 ≠ e) :
    (l.take f).2 = ([], false) ∧ EndI e eo (l.take f).1 lo sent sento told ∧ (l.take f).1.taken = l.taken := by
  obtain ⟨hm, hm1, hm2, hm3⟩ := h.meet he
  have hdec : decide (l.peer < f.f0 ∧ l.peer ≠ 0) = false := decide_eq_false (by rw [h0]; exact hm3)
  unfold LkS.take
  split
  · exact ⟨rfl, h, rfl⟩
  · rw [if_pos (by rw [h.ep]; exact h1), h0]
    rw [h0] at hdec
    exact ⟨by rw [hdec], hm.flags rfl rfl rfl rfl rfl, hm1⟩
/-- A frame of an elder epoch does nothing. -/
theorem take_old_ {l : LkS} {f : FrT} (h : f.f0 < l.peer) : l.take f = (l, [], false) := by
  unfold LkS.take
  rw [if_pos (.inr h)]
/-- While nobody is known nothing was acknowledged. -/
def InvZ (x : PaM) : Prop := ∀ w, w < 2 → (x.l w).peer = 0 → (x.l w).acked = 0
theorem take1_waX (l : LkS) (f : FrT) : (l.take1 f).wait = l.wait ∧ (l.take1 f).acked = l.acked ∧ (l.take1 f).peer = l.peer ∧ (l.take1 f).epoch = l.epoch ∧ (l.take1 f).ticks = l.ticks := by
  unfold LkS.take1
  split <;> exact ⟨rfl, rfl, rfl, rfl, rfl⟩
theorem ackd_waX (l : LkS) (a : Int) : (l.ackd a).taken = l.taken ∧ (l.ackd a).peer = l.peer ∧ (l.ackd a).epoch = l.epoch ∧ (l.ackd a).owes = l.owes := by
  unfold LkS.ackd
  split <;> exact ⟨rfl, rfl, rfl, rfl⟩
theorem take_flag {l : LkS} {f : FrT} (hr : RightF f) (h : ¬ f.f0 < l.peer) : (l.take f).2.2 = decide (l.peer < f.f0 ∧ l.peer ≠ 0) := by
  unfold LkS.take
  rw [if_neg (fun e => e.elim (fun e => e hr) h)]
  split <;> rfl
theorem take_wrong {l : LkS} {f : FrT} (hr : ¬ RightF f) : l.take f = (l, [], false) := by
  unfold LkS.take
  rw [if_pos (.inl hr)]
theorem take_epoch_ (l : LkS) (f : FrT) : (l.take f).1.epoch = l.epoch := by
  have he := meet_epoch l f.f0
  unfold LkS.take
  split
  · rfl
  · split
    · exact he
    · show (((l.meet f.f0).ackd f.f3).take1 f).epoch = _
      rw [(take1_waX _ _).2.2.2.1, (ackd_waX _ _).2.2.1, he]
theorem take_peer_ {l : LkS} {f : FrT} (hr : RightF f) (h : ¬ f.f0 < l.peer) : (l.take f).1.peer = f.f0 := by
  have hp : (l.meet f.f0).peer = f.f0 := by
    unfold LkS.meet
    split
    · rfl
    · omega
  unfold LkS.take
  rw [if_neg (fun e => e.elim (fun e => e hr) h)]
  split
  · exact hp
  · show (((l.meet f.f0).ackd f.f3).take1 f).peer = _
    rw [(take1_waX _ _).2.2.1, (ackd_waX _ _).2.1, hp]
theorem take_z {l : LkS} {f : FrT} (h : l.peer = 0 → l.acked = 0) : (l.take f).1.peer = 0 → (l.take f).1.acked = 0 := by
  unfold LkS.take
  by_cases hc : ¬ RightF f ∨ f.f0 < l.peer
  · rw [if_pos hc]; exact h
  · rw [if_neg hc]
    have hr : RightF f := Classical.not_not.1 fun e => hc (.inl e)
    have hge : ¬ f.f0 < l.peer := fun e => hc (.inr e)
    have hf0 : 1 ≤ f.f0 := hr.1
    have hp : (l.meet f.f0).peer ≠ 0 := by
      unfold LkS.meet
      split
      · show f.f0 ≠ 0; omega
      · omega
    split
    · exact fun e => absurd e hp
    · intro e
      obtain ⟨t1, t2, t3, t4, t5⟩ := take1_waX ((l.meet f.f0).ackd f.f3) f
      obtain ⟨k1, k2, k3, k4⟩ := ackd_waX (l.meet f.f0) f.f3
      exact absurd (by show (l.meet f.f0).peer = 0; rw [← k2, ← t3]; exact e) hp
theorem send_rest (l : LkS) (s : ByteArray) : (l.send s).1.peer = l.peer ∧ (l.send s).1.acked = l.acked ∧ (l.send s).1.taken = l.taken ∧ (l.send s).1.epoch = l.epoch := by
  unfold LkS.send
  split
  · exact ⟨rfl, rfl, rfl, rfl⟩
  · split <;> exact ⟨rfl, rfl, rfl, rfl⟩
theorem InvZ.turn {x : PaM} (h : InvZ x) (t : TurnT) : InvZ (x.turn t) := by
  have hw2 : pickN t.f1 2 < 2 := pickN_lt _ _ (by decide)
  unfold PaM.turn
  generalize hw : pickN t.f1 2 = w at hw2 ⊢
  have hne : 1 - w ≠ w := by omega
  have ho : 1 - w < 2 := by omega
  have deed : ∀ (y : PaM) (l' : LkS), y.l w = l' → y.l (1 - w) = x.l (1 - w) → (l'.peer = 0 → l'.acked = 0) → InvZ y := by
    intro y l' a1 a2 a3
    exact both (P := fun j => (y.l j).peer = 0 → (y.l j).acked = 0) hw2 (by rw [a1]; exact a3) (by rw [a2]; exact h _ ho)
  split
  · obtain ⟨s1, s2, _, _⟩ := send_rest (x.l w) t.f3
    exact deed _ _ (upd_same _ _ _) (upd_ne _ _ hne) (by rw [s1, s2]; exact h w hw2)
  · split
    · exact deed _ _ (upd_same _ _ _) (upd_ne _ _ hne) (h w hw2)
    · split
      · obtain ⟨t1, t2, t3, t4⟩ := tick_rest (x.l w)
        exact deed _ _ (upd_same _ _ _) (upd_ne _ _ hne) (by rw [t2, t3]; exact h w hw2)
      · split
        · exact h
        · generalize pickN t.f2 (x.way w).length = i
          generalize pickN t.f0 6 = k
          obtain ⟨c1, c2, c3, c4, c5, c6⟩ := come_lo (x := x) (k := k) (i := i) hw2
          by_cases hk : k = 4
          · have e1 : (x.come w k i).l w = x.l w := by
              unfold PaM.come PaM.gone
              rw [if_pos hk]
              split <;> rfl
            exact deed _ _ e1 c1 (h w hw2)
          · have e1 : (x.come w k i).l w = ((x.l w).take (x.frame w i)).1 := by
              unfold PaM.come
              rw [if_neg hk]
              exact upd_same _ _ _
            exact deed _ _ e1 c1 (take_z (h w hw2))
/-- The play behind the new end's beginning. -/
structure AnM where
  x : PaM
  told : List ByteArray
  own : List ByteArray
  mine : List ByteArray
  first : Nat
  resets : Nat
namespace AnM
def sendA (a : AnM) (w : Nat) (s : ByteArray) : AnM :=
  { a with x := { a.x with l := upd a.x.l w ((a.x.l w).send s).1, sent := if ((a.x.l w).send s).2 = 0 ∧ w = 0 then upd a.x.sent 0 (a.x.sent 0 ++ [s]) else a.x.sent }, own := if ((a.x.l w).send s).2 = 0 ∧ w = 1 then a.own ++ [s] else a.own }
def outA (a : AnM) (w : Nat) : AnM := { a with x := a.x.outM w }
def tickA (a : AnM) (w : Nat) : AnM := { a with x := a.x.tickM w }
def comeA (a : AnM) (w i : Nat) : AnM :=
  { a with
    x := { a.x with l := upd a.x.l w ((a.x.l w).take (a.x.frame w i)).1 }
    resets := if ((a.x.l w).take (a.x.frame w i)).2.2 = true then a.resets + 1 else a.resets
    first := if ((a.x.l w).take (a.x.frame w i)).2.2 = true then (a.x.sent 0).length else a.first
    told := if w = 1 then a.told ++ ((a.x.l w).take (a.x.frame w i)).2.1 else a.told
    mine := if w ≠ 1 ∧ (a.x.frame w i).f0 = 9 then a.mine ++ ((a.x.l w).take (a.x.frame w i)).2.1 else a.mine }
def step (a : AnM) (t : TurnT) : AnM :=
  if pickN t.f0 4 = 0 then a.sendA (pickN t.f1 2) t.f3
  else if pickN t.f0 4 = 1 then a.outA (pickN t.f1 2)
  else if pickN t.f0 4 = 2 then a.tickA (pickN t.f1 2)
  else if a.x.way (pickN t.f1 2) = [] then a
  else a.comeA (pickN t.f1 2) (pickN t.f2 (a.x.way (pickN t.f1 2)).length)
theorem sendA_l (a : AnM) (w : Nat) (s : ByteArray) : (a.sendA w s).x.l = upd a.x.l w ((a.x.l w).send s).1 := rfl
theorem outA_l (a : AnM) (w : Nat) : (a.outA w).x.l = upd a.x.l w (a.x.l w).outs.1 := rfl
theorem outA_way (a : AnM) (w : Nat) : (a.outA w).x.way = upd a.x.way (1 - w) (a.x.way (1 - w) ++ (a.x.l w).outs.2) := rfl
theorem tickA_l (a : AnM) (w : Nat) : (a.tickA w).x.l = upd a.x.l w (a.x.l w).tick := rfl
theorem comeA_l (a : AnM) (w i : Nat) : (a.comeA w i).x.l = upd a.x.l w ((a.x.l w).take (a.x.frame w i)).1 := rfl
theorem comeA_told (a : AnM) (w i : Nat) : (a.comeA w i).told = if w = 1 then a.told ++ ((a.x.l w).take (a.x.frame w i)).2.1 else a.told := rfl
theorem comeA_mine (a : AnM) (w i : Nat) : (a.comeA w i).mine = if w ≠ 1 ∧ (a.x.frame w i).f0 = 9 then a.mine ++ ((a.x.l w).take (a.x.frame w i)).2.1 else a.mine := rfl
end AnM
/-- What always holds: the frames; and, as the first end does not know, or knows the new one. -/
structure AnC (a : AnM) : Prop where
  ok : ∀ w, w < 2 → (a.x.l w).Ok
  e0 : (a.x.l 0).epoch = 3
  f1 : ∀ f, f ∈ a.x.way 1 → f.f0 = 3
  f0 : ∀ f, f ∈ a.x.way 0 → f.f0 = 5 ∨ FrI 3 9 (a.x.l 1) a.own f
structure AnA (a : AnM) : Prop where
  c : AnC a
  p : (a.x.l 0).peer = 0 ∨ (a.x.l 0).peer = 5
  q : ∀ f, f ∈ a.x.way 1 → f.f1 ≠ 9
  e1 : EndI 9 3 (a.x.l 1) (LkS.begin_ 3) a.own [] []
  told : a.told = []
  mine : a.mine = []
  rs : a.resets = 0
  z : (a.x.l 0).peer = 0 → (a.x.l 0).taken = 0 ∧ (a.x.l 0).acked = 0 ∧ (a.x.l 0).wait.map (fun b => b.f0) = a.x.sent 0
structure AnB (a : AnM) : Prop where
  c : AnC a
  p : (a.x.l 0).peer = 9
  b : ∃ fst, fst ≤ (a.x.sent 0).length ∧ (0 < a.resets → fst = a.first) ∧ EndI 3 9 (a.x.l 0) (a.x.l 1) ((a.x.sent 0).drop fst) a.own a.mine ∧ EndI 9 3 (a.x.l 1) (a.x.l 0) a.own ((a.x.sent 0).drop fst) a.told ∧ ∀ f, f ∈ a.x.way 1 → f.f1 = 9 → FrI 9 3 (a.x.l 0) ((a.x.sent 0).drop fst) f
  rs : a.resets ≤ 1
theorem EndI.begin9 : EndI 9 3 (LkS.begin_ 9) (LkS.begin_ 3) [] [] [] :=
  ⟨rfl, .inl rfl, fun _ => rfl, Int.le_refl _, rfl, rfl, Int.le_refl _, Int.le_refl _, rfl, Int.le_refl _⟩
def AnM.start (x : PaM) : AnM := ⟨{ x with l := upd x.l 1 (LkS.begin_ 9) }, [], [], [], (x.sent 0).length, 0⟩
theorem AnA.start {n : Nat} {x : PaM} (h : InvP n x) (hz : InvZ x) : AnA (AnM.start x) := by
  have h0 : (AnM.start x).x.l 0 = x.l 0 := by show upd x.l 1 (LkS.begin_ 9) 0 = _; exact upd_ne _ _ (by decide)
  have h1 : (AnM.start x).x.l 1 = LkS.begin_ 9 := by show upd x.l 1 (LkS.begin_ 9) 1 = _; exact upd_same _ _ _
  have hE := h.en 0 (by decide)
  have e0 : eOf 0 = 3 := rfl
  have e1 : eOf 1 = 5 := rfl
  refine ⟨⟨both (w := 0) (by decide) (by rw [h0]; exact h.ok 0 (by decide)) (by rw [show 1 - 0 = 1 from rfl, h1]; exact LkS.Ok.begin_ 9), by rw [h0]; exact hE.ep, fun f hf => (h.fr 1 (by decide) f hf).e0, fun f hf => .inl (h.fr 0 (by decide) f hf).e0⟩, by rw [h0]; exact hE.pr, fun f hf e => ?_, by rw [h1]; exact EndI.begin9, rfl, rfl, rfl, fun hp => ?_⟩
  · rcases (h.fr 1 (by decide) f hf).e1 with e2 | e2
    · omega
    · rw [e1] at e2; omega
  · rw [h0] at hp ⊢
    have ha := hz 0 (by decide) hp
    have hw := hE.ws
    rw [ha] at hw
    exact ⟨hE.pz hp, ha, hw⟩
theorem two1 {P : Nat → Prop} (h0 : P 0) (h1 : P 1) : ∀ w, w < 2 → P w := fun w hw => by
  rcases two01 hw with rfl | rfl
  · exact h0
  · exact h1
theorem AnC.upd0 {a : AnM} (h : AnC a) {y : AnM} (hl0 : (y.x.l 0).Ok) (he : (y.x.l 0).epoch = 3) (hl1 : y.x.l 1 = a.x.l 1) (hw1 : ∀ f, f ∈ y.x.way 1 → f ∈ a.x.way 1 ∨ f.f0 = 3) (hw0 : y.x.way 0 = a.x.way 0) (ho : y.own = a.own) : AnC y :=
  ⟨two1 hl0 (by rw [hl1]; exact h.ok 1 (by decide)), he, fun f hf => (hw1 f hf).elim (h.f1 f) id, fun f hf => by rw [hl1, ho]; rw [hw0] at hf; exact h.f0 f hf⟩
theorem AnC.upd1 {a : AnM} (h : AnC a) {y : AnM} (hl1 : (y.x.l 1).Ok) (hl0 : y.x.l 0 = a.x.l 0) (ht : (a.x.l 1).taken ≤ (y.x.l 1).taken) (hw1 : y.x.way 1 = a.x.way 1) (hw0 : ∀ f, f ∈ y.x.way 0 → f ∈ a.x.way 0 ∨ FrI 3 9 (y.x.l 1) y.own f) (ho : a.own <+: y.own) : AnC y :=
  ⟨two1 (by rw [hl0]; exact h.ok 0 (by decide)) hl1, by rw [hl0]; exact h.e0, fun f hf => by rw [hw1] at hf; exact h.f1 f hf, fun f hf => (hw0 f hf).elim (fun hf => (h.f0 f hf).imp id (fun h => h.grow ho ht)) .inr⟩
theorem send_wait {l : LkS} {s : ByteArray} (h : (l.send s).2 = 0) : (l.send s).1.wait.map (fun b => b.f0) = l.wait.map (fun b => b.f0) ++ [s] := by
  unfold LkS.send at h ⊢
  split
  · rename_i h1; rw [if_pos h1] at h; exact absurd (show (3 : Int) = 0 from h) (by decide)
  · rename_i h1
    rw [if_neg h1] at h
    split
    · rename_i h2; rw [if_pos h2] at h; exact absurd (show (8 : Int) = 0 from h) (by decide)
    · show (l.wait ++ [_]).map _ = _
      rw [List.map_append]
      rfl
def AnI (a : AnM) : Prop := AnA a ∨ AnB a
theorem AnI.c {a : AnM} (h : AnI a) : AnC a := h.elim AnA.c AnB.c
/-- Sends. -/
theorem AnI.send0 {a : AnM} (h : AnI a) (s : ByteArray) : AnI (a.sendA 0 s) := by
  have hl0 : (a.sendA 0 s).x.l 0 = ((a.x.l 0).send s).1 := by rw [AnM.sendA_l]; exact upd_same _ _ _
  have hl1 : (a.sendA 0 s).x.l 1 = a.x.l 1 := by rw [AnM.sendA_l]; exact upd_ne _ _ (by decide)
  have hown : (a.sendA 0 s).own = a.own := if_neg (fun e => by have := e.2; omega)
  obtain ⟨s1, s2, s3, s4⟩ := send_rest (a.x.l 0) s
  have hC : AnC (a.sendA 0 s) := h.c.upd0 (by rw [hl0]; exact (h.c.ok 0 (by decide)).send s) (by rw [hl0, s4]; exact h.c.e0) hl1 (fun f hf => .inl hf) rfl hown
  by_cases hs : ((a.x.l 0).send s).2 = 0
  · have hsent : (a.sendA 0 s).x.sent 0 = a.x.sent 0 ++ [s] := by
      show (if _ then upd a.x.sent 0 (a.x.sent 0 ++ [s]) else a.x.sent) 0 = _
      rw [if_pos ⟨hs, rfl⟩]
      exact upd_same _ _ _
    rcases h with h | h
    · refine .inl ⟨hC, by rw [hl0, s1]; exact h.p, h.q, by rw [hl1, hown]; exact h.e1, h.told, h.mine, h.rs, fun hp => ?_⟩
      rw [hl0, s1] at hp
      obtain ⟨z1, z2, z3⟩ := h.z hp
      rw [hl0, hsent, s2, s3, send_wait hs, z3]
      exact ⟨z1, z2, rfl⟩
    · obtain ⟨fst, b1, b2, b3, b4, b5⟩ := h.b
      have hd : (a.x.sent 0 ++ [s]).drop fst = (a.x.sent 0).drop fst ++ [s] := List.drop_append_of_le_length b1
      obtain ⟨g1, g2⟩ := b3.send s hs
      refine .inr ⟨hC, by rw [hl0, s1]; exact h.p, ⟨fst, ?_, b2, ?_, ?_, fun f hf hf1 => ?_⟩, h.rs⟩
      · rw [hsent, List.length_append]; omega
      · rw [hl0, hl1, hsent, hd, hown]; exact g1
      · rw [hl0, hl1, hsent, hd, hown]; exact b4.grow (List.prefix_append _ _) (by rw [s3]; exact Int.le_refl _)
      · rw [hl0, hsent, hd]; exact (b5 f hf hf1).grow (List.prefix_append _ _) (by rw [s3]; exact Int.le_refl _)
  · have hno := send_no hs
    have hsent : (a.sendA 0 s).x.sent 0 = a.x.sent 0 := by
      show (if _ then upd a.x.sent 0 (a.x.sent 0 ++ [s]) else a.x.sent) 0 = _
      rw [if_neg (fun e => hs e.1)]
    rw [hno] at hl0
    rcases h with h | h
    · exact .inl ⟨hC, by rw [hl0]; exact h.p, h.q, by rw [hl1, hown]; exact h.e1, h.told, h.mine, h.rs, by rw [hl0, hsent]; exact h.z⟩
    · exact .inr ⟨hC, by rw [hl0]; exact h.p, by rw [hl0, hl1, hsent, hown]; exact h.b, h.rs⟩
theorem AnI.send1 {a : AnM} (h : AnI a) (s : ByteArray) : AnI (a.sendA 1 s) := by
  have hl1 : (a.sendA 1 s).x.l 1 = ((a.x.l 1).send s).1 := by rw [AnM.sendA_l]; exact upd_same _ _ _
  have hl0 : (a.sendA 1 s).x.l 0 = a.x.l 0 := by rw [AnM.sendA_l]; exact upd_ne _ _ (by decide)
  have hsent : (a.sendA 1 s).x.sent = a.x.sent := if_neg (fun e => by have := e.2; omega)
  obtain ⟨s1, s2, s3, s4⟩ := send_rest (a.x.l 1) s
  by_cases hs : ((a.x.l 1).send s).2 = 0
  · have hown : (a.sendA 1 s).own = a.own ++ [s] := if_pos ⟨hs, rfl⟩
    have hC : AnC (a.sendA 1 s) := h.c.upd1 (by rw [hl1]; exact (h.c.ok 1 (by decide)).send s) hl0 (by rw [hl1, s3]; exact Int.le_refl _) rfl (fun f hf => .inl hf) (by rw [hown]; exact List.prefix_append _ _)
    rcases h with h | h
    · exact .inl ⟨hC, by rw [hl0]; exact h.p, h.q, by rw [hl1, hown]; exact (h.e1.send s hs).1, h.told, h.mine, h.rs, by rw [hl0, hsent]; exact h.z⟩
    · obtain ⟨fst, b1, b2, b3, b4, b5⟩ := h.b
      refine .inr ⟨hC, by rw [hl0]; exact h.p, ⟨fst, by rw [hsent]; exact b1, b2, ?_, ?_, by rw [hl0, hsent]; exact b5⟩, h.rs⟩
      · rw [hl0, hl1, hsent, hown]; exact b3.grow (List.prefix_append _ _) (by rw [s3]; exact Int.le_refl _)
      · rw [hl0, hl1, hsent, hown]; exact (b4.send s hs).1
  · have hno := send_no hs
    have hown : (a.sendA 1 s).own = a.own := if_neg (fun e => hs e.1)
    rw [hno] at hl1
    have hC : AnC (a.sendA 1 s) := h.c.upd1 (by rw [hl1]; exact h.c.ok 1 (by decide)) hl0 (by rw [hl1]; exact Int.le_refl _) rfl (fun f hf => .inl hf) (by rw [hown]; exact List.prefix_refl _)
    rcases h with h | h
    · exact .inl ⟨hC, by rw [hl0]; exact h.p, h.q, by rw [hl1, hown]; exact h.e1, h.told, h.mine, h.rs, by rw [hl0, hsent]; exact h.z⟩
    · exact .inr ⟨hC, by rw [hl0]; exact h.p, by rw [hl0, hl1, hsent, hown]; exact h.b, h.rs⟩
/-- Puts its frames on the way. -/
theorem AnI.out0 {a : AnM} (h : AnI a) : AnI (a.outA 0) := by
  have hl0 : (a.outA 0).x.l 0 = (a.x.l 0).outs.1 := by rw [AnM.outA_l]; exact upd_same _ _ _
  have hl1 : (a.outA 0).x.l 1 = a.x.l 1 := by rw [AnM.outA_l]; exact upd_ne _ _ (by decide)
  have hw1 : (a.outA 0).x.way 1 = a.x.way 1 ++ (a.x.l 0).outs.2 := by rw [AnM.outA_way]; exact upd_same _ _ _
  have hw0 : (a.outA 0).x.way 0 = a.x.way 0 := by rw [AnM.outA_way]; exact upd_ne _ _ (by decide)
  have hC : AnC (a.outA 0) := h.c.upd0 (by rw [hl0]; exact (h.c.ok 0 (by decide)).outs) (by rw [hl0]; exact h.c.e0) hl1 (fun f hf => by
    rw [hw1] at hf
    exact (List.mem_append.1 hf).imp id (fun hf => by rw [(outs_mem hf).1]; exact h.c.e0)) hw0 rfl
  rcases h with h | h
  · refine .inl ⟨hC, by rw [hl0]; exact h.p, fun f hf => ?_, by rw [hl1]; exact h.e1, h.told, h.mine, h.rs, fun hp => ?_⟩
    · rw [hw1] at hf
      rcases List.mem_append.1 hf with hf | hf
      · exact h.q f hf
      · rw [(outs_mem hf).2.1]
        rcases h.p with e | e <;> omega
    · rw [hl0] at hp
      obtain ⟨z1, z2, z3⟩ := h.z hp
      rw [hl0, outs_wait]
      exact ⟨z1, z2, z3⟩
  · obtain ⟨fst, b1, b2, b3, b4, b5⟩ := h.b
    obtain ⟨g1, g2⟩ := b3.outs
    refine .inr ⟨hC, by rw [hl0]; exact h.p, ⟨fst, b1, b2, by rw [hl0, hl1]; exact g1, by rw [hl0, hl1]; exact b4.grow (List.prefix_refl _) (Int.le_refl _), fun f hf hf1 => ?_⟩, h.rs⟩
    rw [hw1] at hf
    rw [hl0]
    rcases List.mem_append.1 hf with hf | hf
    · exact (b5 f hf hf1).grow (List.prefix_refl _) (Int.le_refl _)
    · exact g2 f hf
theorem AnI.out1 {a : AnM} (h : AnI a) : AnI (a.outA 1) := by
  have hl1 : (a.outA 1).x.l 1 = (a.x.l 1).outs.1 := by rw [AnM.outA_l]; exact upd_same _ _ _
  have hl0 : (a.outA 1).x.l 0 = a.x.l 0 := by rw [AnM.outA_l]; exact upd_ne _ _ (by decide)
  have hw0 : (a.outA 1).x.way 0 = a.x.way 0 ++ (a.x.l 1).outs.2 := by rw [AnM.outA_way]; exact upd_same _ _ _
  have hw1 : (a.outA 1).x.way 1 = a.x.way 1 := by rw [AnM.outA_way]; exact upd_ne _ _ (by decide)
  have hfr : ∀ f, f ∈ (a.x.l 1).outs.2 → FrI 3 9 (a.x.l 1).outs.1 a.own f := by
    rcases h with h | h
    · exact h.e1.outs.2
    · obtain ⟨fst, b1, b2, b3, b4, b5⟩ := h.b
      exact b4.outs.2
  have hC : AnC (a.outA 1) := h.c.upd1 (by rw [hl1]; exact (h.c.ok 1 (by decide)).outs) hl0 (by rw [hl1]; exact Int.le_refl _) hw1 (fun f hf => by
    rw [hw0] at hf
    exact (List.mem_append.1 hf).imp id (fun hf => by rw [hl1]; exact hfr f hf)) (List.prefix_refl _)
  rcases h with h | h
  · exact .inl ⟨hC, by rw [hl0]; exact h.p, by rw [hw1]; exact h.q, by rw [hl1]; exact h.e1.outs.1, h.told, h.mine, h.rs, by rw [hl0]; exact h.z⟩
  · obtain ⟨fst, b1, b2, b3, b4, b5⟩ := h.b
    exact .inr ⟨hC, by rw [hl0]; exact h.p, ⟨fst, b1, b2, by rw [hl0, hl1]; exact b3.grow (List.prefix_refl _) (Int.le_refl _), by rw [hl0, hl1]; exact b4.outs.1, by rw [hl0, hw1]; exact b5⟩, h.rs⟩
/-- Ticks. -/
theorem AnI.tick0 {a : AnM} (h : AnI a) : AnI (a.tickA 0) := by
  have hl0 : (a.tickA 0).x.l 0 = (a.x.l 0).tick := by rw [AnM.tickA_l]; exact upd_same _ _ _
  have hl1 : (a.tickA 0).x.l 1 = a.x.l 1 := by rw [AnM.tickA_l]; exact upd_ne _ _ (by decide)
  obtain ⟨t1, t2, t3, t4⟩ := tick_rest (a.x.l 0)
  have hC : AnC (a.tickA 0) := h.c.upd0 (by rw [hl0]; exact (h.c.ok 0 (by decide)).tick) (by rw [hl0, t1]; exact h.c.e0) hl1 (fun f hf => .inl hf) rfl rfl
  rcases h with h | h
  · refine .inl ⟨hC, by rw [hl0, t2]; exact h.p, h.q, by rw [hl1]; exact h.e1, h.told, h.mine, h.rs, fun hp => ?_⟩
    rw [hl0, t2] at hp
    obtain ⟨z1, z2, z3⟩ := h.z hp
    rw [hl0, t3, t4, tick_wait]
    exact ⟨z1, z2, z3⟩
  · obtain ⟨fst, b1, b2, b3, b4, b5⟩ := h.b
    exact .inr ⟨hC, by rw [hl0, t2]; exact h.p, ⟨fst, b1, b2, by rw [hl0, hl1]; exact b3.flags t1 t2 t3 t4 (tick_wait _), by rw [hl0, hl1]; exact b4.grow (List.prefix_refl _) (by rw [t4]; exact Int.le_refl _), fun f hf hf1 => by rw [hl0]; exact (b5 f hf hf1).grow (List.prefix_refl _) (by rw [t4]; exact Int.le_refl _)⟩, h.rs⟩
theorem AnI.tick1 {a : AnM} (h : AnI a) : AnI (a.tickA 1) := by
  have hl1 : (a.tickA 1).x.l 1 = (a.x.l 1).tick := by rw [AnM.tickA_l]; exact upd_same _ _ _
  have hl0 : (a.tickA 1).x.l 0 = a.x.l 0 := by rw [AnM.tickA_l]; exact upd_ne _ _ (by decide)
  obtain ⟨t1, t2, t3, t4⟩ := tick_rest (a.x.l 1)
  have hC : AnC (a.tickA 1) := h.c.upd1 (by rw [hl1]; exact (h.c.ok 1 (by decide)).tick) hl0 (by rw [hl1, t4]; exact Int.le_refl _) rfl (fun f hf => .inl hf) (List.prefix_refl _)
  rcases h with h | h
  · exact .inl ⟨hC, by rw [hl0]; exact h.p, h.q, by rw [hl1]; exact h.e1.flags t1 t2 t3 t4 (tick_wait _), h.told, h.mine, h.rs, by rw [hl0]; exact h.z⟩
  · obtain ⟨fst, b1, b2, b3, b4, b5⟩ := h.b
    exact .inr ⟨hC, by rw [hl0]; exact h.p, ⟨fst, b1, b2, by rw [hl0, hl1]; exact b3.grow (List.prefix_refl _) (by rw [t4]; exact Int.le_refl _), by rw [hl0, hl1]; exact b4.flags t1 t2 t3 t4 (tick_wait _), by rw [hl0]; exact b5⟩, h.rs⟩
/-- A frame comes to the new end. -/
theorem AnI.come1 {a : AnM} (h : AnI a) {i : Nat} (hi : i < (a.x.way 1).length) : AnI (a.comeA 1 i) ∧ ((a.x.l 1).take (a.x.frame 1 i)).2.2 = false := by
  have hfm := a.x.frame_mem hi
  have hf0 := h.c.f1 _ hfm
  generalize hfe : a.x.frame 1 i = f at hfm hf0
  have hl1 : (a.comeA 1 i).x.l 1 = ((a.x.l 1).take f).1 := by rw [← hfe, AnM.comeA_l]; exact upd_same _ _ _
  have hl0 : (a.comeA 1 i).x.l 0 = a.x.l 0 := by rw [AnM.comeA_l]; exact upd_ne _ _ (by decide)
  have hmine : (a.comeA 1 i).mine = a.mine := by rw [AnM.comeA_mine]; exact if_neg (fun e => e.1 rfl)
  have htold : (a.comeA 1 i).told = a.told ++ ((a.x.l 1).take f).2.1 := by rw [← hfe, AnM.comeA_told]; exact if_pos rfl
  have key : ((a.x.l 1).take f).2.2 = false → (a.comeA 1 i).resets = a.resets ∧ (a.comeA 1 i).first = a.first := fun e => by
    rw [← hfe] at e
    exact ⟨if_neg (by rw [e]; simp), if_neg (by rw [e]; simp)⟩
  rcases h with h | h
  · obtain ⟨g1, g2, g3⟩ := h.e1.other (by decide) hf0 (h.q f hfm)
    have hr : ((a.x.l 1).take f).2.2 = false := by rw [g1]
    obtain ⟨k1, k2⟩ := key hr
    have hC : AnC (a.comeA 1 i) := h.c.upd1 (by rw [hl1]; exact (h.c.ok 1 (by decide)).take f) hl0 (by rw [hl1, g3]; exact Int.le_refl _) rfl (fun f hf => .inl hf) (List.prefix_refl _)
    exact ⟨.inl ⟨hC, by rw [hl0]; exact h.p, h.q, by rw [hl1]; exact g2, by rw [htold, h.told, g1]; rfl, by rw [hmine]; exact h.mine, by rw [k1]; exact h.rs, by rw [hl0]; exact h.z⟩, hr⟩
  · obtain ⟨fst, b1, b2, b3, b4, b5⟩ := h.b
    by_cases h9 : f.f1 = 9
    · obtain ⟨g1, g2, g3, g4⟩ := b4.take (by decide) (b5 f hfm h9)
      obtain ⟨k1, k2⟩ := key g1
      have hC : AnC (a.comeA 1 i) := h.c.upd1 (by rw [hl1]; exact (h.c.ok 1 (by decide)).take f) hl0 (by rw [hl1]; exact g4) rfl (fun f hf => .inl hf) (List.prefix_refl _)
      exact ⟨.inr ⟨hC, by rw [hl0]; exact h.p, ⟨fst, b1, by rw [k1, k2]; exact b2, by rw [hl0, hl1, hmine]; exact b3.grow (List.prefix_refl _) g4, by rw [hl0, hl1, htold]; exact g3, by rw [hl0]; exact b5⟩, by rw [k1]; exact h.rs⟩, g1⟩
    · obtain ⟨g1, g2, g3⟩ := b4.other (by decide) hf0 h9
      have hr : ((a.x.l 1).take f).2.2 = false := by rw [g1]
      obtain ⟨k1, k2⟩ := key hr
      have ht2 : (a.comeA 1 i).told = a.told := by rw [htold, g1]; exact List.append_nil _
      have hC : AnC (a.comeA 1 i) := h.c.upd1 (by rw [hl1]; exact (h.c.ok 1 (by decide)).take f) hl0 (by rw [hl1, g3]; exact Int.le_refl _) rfl (fun f hf => .inl hf) (List.prefix_refl _)
      exact ⟨.inr ⟨hC, by rw [hl0]; exact h.p, ⟨fst, b1, by rw [k1, k2]; exact b2, by rw [hl0, hl1, hmine]; exact b3.grow (List.prefix_refl _) (by rw [g3]; exact Int.le_refl _), by rw [hl0, hl1, ht2]; exact g2, by rw [hl0]; exact b5⟩, by rw [k1]; exact h.rs⟩, hr⟩
/-- A frame comes to the first end. -/
theorem AnI.come0 {a : AnM} (h : AnI a) {i : Nat} (hi : i < (a.x.way 0).length) : AnI (a.comeA 0 i) := by
  have hfm := a.x.frame_mem hi
  have hf0 := h.c.f0 _ hfm
  generalize hfe : a.x.frame 0 i = f at hfm hf0
  have hl0 : (a.comeA 0 i).x.l 0 = ((a.x.l 0).take f).1 := by rw [← hfe, AnM.comeA_l]; exact upd_same _ _ _
  have hl1 : (a.comeA 0 i).x.l 1 = a.x.l 1 := by rw [AnM.comeA_l]; exact upd_ne _ _ (by decide)
  have htold : (a.comeA 0 i).told = a.told := by rw [AnM.comeA_told]; exact if_neg (by decide)
  have hmine : f.f0 = 9 → (a.comeA 0 i).mine = a.mine ++ ((a.x.l 0).take f).2.1 := fun e => by rw [← hfe] at e ⊢; exact if_pos ⟨by decide, e⟩
  have hmine5 : f.f0 = 5 → (a.comeA 0 i).mine = a.mine := fun e => by rw [← hfe] at e; exact if_neg (fun h => by have := h.2; omega)
  have key : ((a.x.l 0).take f).2.2 = false → (a.comeA 0 i).resets = a.resets ∧ (a.comeA 0 i).first = a.first := fun e => by
    rw [← hfe] at e
    exact ⟨if_neg (by rw [e]; simp), if_neg (by rw [e]; simp)⟩
  have keyT : ((a.x.l 0).take f).2.2 = true → (a.comeA 0 i).resets = a.resets + 1 ∧ (a.comeA 0 i).first = (a.x.sent 0).length := fun e => by
    rw [← hfe] at e
    exact ⟨if_pos e, if_pos e⟩
  have hC : AnC (a.comeA 0 i) := h.c.upd0 (by rw [hl0]; exact (h.c.ok 0 (by decide)).take f) (by rw [hl0, take_epoch_]; exact h.c.e0) hl1 (fun f hf => .inl hf) rfl rfl
  rcases h with h | h
  · by_cases hr : RightF f
    · rcases hf0 with h5 | hF
      · -- an elder frame
        have hge : ¬ f.f0 < (a.x.l 0).peer := by rcases h.p with e | e <;> omega
        have hfl := take_flag hr hge
        rw [decide_eq_false (by rcases h.p with e | e <;> omega)] at hfl
        have hpe := take_peer_ hr hge
        obtain ⟨k1, k2⟩ := key hfl
        exact .inl ⟨hC, by rw [hl0, hpe]; exact .inr h5, h.q, by rw [hl1]; exact h.e1, by rw [htold]; exact h.told, by rw [hmine5 h5]; exact h.mine, by rw [k1]; exact h.rs, fun hp => by rw [hl0, hpe] at hp; omega⟩
      · have h9 := hF.e0
        have hlt : (a.x.l 0).peer < f.f0 := by rcases h.p with e | e <;> omega
        obtain ⟨m1, m2⟩ := take_meet hr hlt
        have hge : ¬ f.f0 < (a.x.l 0).peer := by omega
        have hfl := take_flag hr hge
        have hpe := take_peer_ hr hge
        have ht1 : (a.x.l 1).taken = 0 := by have h1 := h.e1.tl; have h2 := h.e1.t0; simp only [List.length_nil] at h1; omega
        have ha1 : (a.x.l 1).acked ≤ 0 := h.e1.at_
        -- a fresh beginning
        have fresh : ∃ fst, fst ≤ (a.x.sent 0).length ∧ (0 < (a.comeA 0 i).resets → fst = (a.comeA 0 i).first) ∧ EndI 3 9 ((a.x.l 0).meet 9) (a.x.l 1) ((a.x.sent 0).drop fst) a.own [] ∧ (a.comeA 0 i).resets ≤ 1 := by
          rcases h.p with e | e
          · rw [decide_eq_false (fun hh => hh.2 e)] at hfl
            obtain ⟨k1, k2⟩ := key hfl
            obtain ⟨z1, z2, z3⟩ := h.z e
            have hm : (a.x.l 0).meet 9 = { a.x.l 0 with peer := 9, taken := 0 } := by unfold LkS.meet; rw [if_pos (by omega), if_neg (fun hh => hh e)]
            refine ⟨0, Nat.zero_le _, fun hh => by rw [k1, h.rs] at hh; omega, ?_, by rw [k1, h.rs]; decide⟩
            rw [hm, List.drop_zero]
            exact ⟨h.c.e0, .inr rfl, fun _ => rfl, by show 0 ≤ (a.x.l 0).acked; omega, by show (a.x.l 0).acked + ((a.x.l 0).wait.length : Nat) = _; rw [z2, ← z3, List.length_map]; omega, by show (a.x.l 0).wait.map _ = (a.x.sent 0).drop (a.x.l 0).acked.toNat; rw [z2]; exact z3, Int.le_refl _, by show (0 : Int) ≤ _; omega, rfl, by show (a.x.l 0).acked ≤ _; omega⟩
          · rw [decide_eq_true ⟨hlt, by omega⟩] at hfl
            obtain ⟨k1, k2⟩ := keyT hfl
            have hm : (a.x.l 0).meet 9 = { (a.x.l 0).reset with peer := 9, taken := 0 } := by unfold LkS.meet; rw [if_pos (by omega), if_pos (by omega)]
            refine ⟨(a.x.sent 0).length, Nat.le_refl _, fun _ => k2.symm, ?_, by rw [k1, h.rs]; decide⟩
            rw [hm, List.drop_length]
            exact ⟨h.c.e0, .inr rfl, fun _ => rfl, Int.le_refl _, rfl, rfl, Int.le_refl _, by show (0 : Int) ≤ _; omega, rfl, by show (0 : Int) ≤ _; omega⟩
        obtain ⟨fst, b1, b2, b3, b4⟩ := fresh
        rw [h9] at m1 m2
        obtain ⟨g1, g2, g3, g4⟩ := b3.take (by decide) hF
        have hm9 : (a.comeA 0 i).mine = [] ++ (((a.x.l 0).meet 9).take f).2.1 := by rw [hmine h9, h.mine, m2]
        refine .inr ⟨hC, by rw [hl0, hpe]; exact h9, ⟨fst, b1, b2, by rw [hl0, hl1, hm9, m1]; exact g3, ?_, fun f hf hf1 => absurd hf1 (h.q f hf)⟩, b4⟩
        rw [hl0, hl1, htold, h.told]
        have hE := h.e1
        have hT : 0 ≤ ((a.x.l 0).take f).1.taken := by rw [m1]; exact g3.t0
        exact ⟨hE.ep, hE.pr, hE.pz, hE.a0, hE.al, hE.ws, hE.t0, by rw [ht1]; omega, by rw [ht1]; rfl, by omega⟩
    · have hw := take_wrong (l := a.x.l 0) hr
      have hfl : ((a.x.l 0).take f).2.2 = false := by rw [hw]
      obtain ⟨k1, k2⟩ := key hfl
      rw [hw] at hl0
      have hmn : (a.comeA 0 i).mine = a.mine := by
        rcases hf0 with h5 | hF
        · exact hmine5 h5
        · rw [hmine hF.e0, hw]; exact List.append_nil _
      exact .inl ⟨hC, by rw [hl0]; exact h.p, h.q, by rw [hl1]; exact h.e1, by rw [htold]; exact h.told, by rw [hmn]; exact h.mine, by rw [k1]; exact h.rs, by rw [hl0]; exact h.z⟩
  · obtain ⟨fst, b1, b2, b3, b4, b5⟩ := h.b
    rcases hf0 with h5 | hF
    · have hw := take_old_ (l := a.x.l 0) (f := f) (by have := h.p; omega)
      have hfl : ((a.x.l 0).take f).2.2 = false := by rw [hw]
      obtain ⟨k1, k2⟩ := key hfl
      rw [hw] at hl0
      exact .inr ⟨hC, by rw [hl0]; exact h.p, ⟨fst, b1, by rw [k1, k2]; exact b2, by rw [hl0, hl1, hmine5 h5]; exact b3, by rw [hl0, hl1, htold]; exact b4, by rw [hl0]; exact b5⟩, by rw [k1]; exact h.rs⟩
    · obtain ⟨g1, g2, g3, g4⟩ := b3.take (by decide) hF
      obtain ⟨k1, k2⟩ := key g1
      have hpe : ((a.x.l 0).take f).1.peer = 9 := by
        rcases g3.pr with e | e
        · by_cases hr : RightF f
          · have := take_peer_ hr (by rw [hF.e0, h.p]; omega); rw [hF.e0] at this; exact this
          · rw [take_wrong hr]; exact h.p
        · exact e
      exact .inr ⟨hC, by rw [hl0]; exact hpe, ⟨fst, b1, by rw [k1, k2]; exact b2, by rw [hl0, hl1, hmine hF.e0]; exact g3, by rw [hl0, hl1, htold]; exact b4.grow (List.prefix_refl _) g4, fun f hf hf1 => by rw [hl0]; exact (b5 f hf hf1).grow (List.prefix_refl _) g4⟩, by rw [k1]; exact h.rs⟩
/-- What the law asks for in the end. -/
theorem AnI.ends {a : AnM} (h : AnI a) : a.resets ≤ 1 ∧ a.mine <+: a.own ∧ (0 < a.resets → a.first ≤ (a.x.sent 0).length ∧ a.told <+: (a.x.sent 0).drop a.first) := by
  rcases h with h | h
  · exact ⟨by rw [h.rs]; decide, by rw [h.mine]; exact List.nil_prefix, fun e => by rw [h.rs] at e; omega⟩
  · obtain ⟨fst, b1, b2, b3, b4, b5⟩ := h.b
    refine ⟨h.rs, by rw [b3.td]; exact List.take_prefix _ _, fun e => ?_⟩
    rw [← b2 e]
    exact ⟨b1, by rw [b4.td]; exact List.take_prefix _ _⟩

end Go.Proofs.Ytdpogggajdfedaa.P
