import Derived.Test.YtdpogggajdfedaaLinkL
import Derived.Outline
import Derived.Laws.BitsAllLaws
import Derived.WalkSpells
import Derived.StillTailTactics
namespace Go.Proofs.Ytdpogggajdfedaa.P
open Go.RowKit Go.Proofs.YtdpogggajdfedaaW.PrintWords Go.Proofs.YtdpogggajdfedaaW.PrintLast Go.Proofs.YtdpogggajdfedaaW.PrintMore
attribute [local go_sem] max2_int min2_int max_two min_two max_three min_three max_four min_four
set_option linter.unusedVariables false
set_option linter.unusedSimpArgs false
/-! ### What always holds of two ends -/
def eOf (w : Nat) : Int := 3 + 2 * (w : Int)
/-- One end: its epoch, the other's; what was sent by each; what it was told. -/
structure EndI (e eo : Int) (l lo : LkS) (sent sento told : List ByteArray) : Prop where
  ep : l.epoch = e
  pr : l.peer = 0 ∨ l.peer = eo
  pz : l.peer = 0 → l.taken = 0
  a0 : 0 ≤ l.acked
  al : l.acked + l.wait.length = sent.length
  ws : l.wait.map (fun b => b.f0) = sent.drop l.acked.toNat
  t0 : 0 ≤ l.taken
  tl : l.taken ≤ sento.length
  td : told = sento.take l.taken.toNat
  at_ : l.acked ≤ lo.taken
/-- A frame on the way to an end. -/
structure FrI (e eo : Int) (lo : LkS) (sento : List ByteArray) (f : FrT) : Prop where
  e0 : f.f0 = eo
  e1 : f.f1 = 0 ∨ f.f1 = e
  z : f.f1 = 0 → f.f2 = 0
  s0 : 0 ≤ f.f2
  s1 : f.f2 ≤ sento.length
  b : 0 < f.f2 → f.f4 = sento.getD (f.f2 - 1).toNat ByteArray.empty
  a1 : f.f3 ≤ lo.taken
theorem take_grow {α : Type} {xs ys : List α} {n : Nat} (h : xs <+: ys) (hn : n ≤ xs.length) : ys.take n = xs.take n := by
  obtain ⟨r, rfl⟩ := h
  rw [List.take_append_of_le_length hn]
theorem EndI.grow {e eo : Int} {l lo lo' : LkS} {sent sento sento' told : List ByteArray} (h : EndI e eo l lo sent sento told) (hs : sento <+: sento') (ht : lo.taken ≤ lo'.taken) : EndI e eo l lo' sent sento' told :=
  { h with
    tl := by have := hs.length_le; have := h.tl; omega
    td := by rw [take_grow hs (by have := h.tl; have := h.t0; omega)]; exact h.td
    at_ := Int.le_trans h.at_ ht }
theorem FrI.grow {e eo : Int} {lo lo' : LkS} {sento sento' : List ByteArray} {f : FrT} (h : FrI e eo lo sento f) (hs : sento <+: sento') (ht : lo.taken ≤ lo'.taken) : FrI e eo lo' sento' f :=
  { h with
    s1 := by have := hs.length_le; have := h.s1; omega
    b := fun h0 => by
      rw [h.b h0]
      obtain ⟨r, rfl⟩ := hs
      have := h.s1
      rw [List.getD_eq_getElem?_getD, List.getD_eq_getElem?_getD, List.getElem?_append_left (by omega)]
    a1 := Int.le_trans h.a1 ht }
structure InvP (n : Nat) (x : PaM) : Prop where
  en : ∀ w, w < 2 → EndI (eOf w) (eOf (1 - w)) (x.l w) (x.l (1 - w)) (x.sent w) (x.sent (1 - w)) (x.told w)
  fr : ∀ w, w < 2 → ∀ f, f ∈ x.way w → FrI (eOf w) (eOf (1 - w)) (x.l (1 - w)) (x.sent (1 - w)) f
  ok : ∀ w, w < 2 → (x.l w).Ok
  wl : ∀ w, w < 2 → (x.way w).length ≤ 8 * n
  sl : ∀ w, w < 2 → (x.sent w).length ≤ n
theorem both {P : Nat → Prop} {w : Nat} (hw : w < 2) (h1 : P w) (h2 : P (1 - w)) : ∀ j, j < 2 → P j := by
  intro j hj
  by_cases e : j = w
  · rw [e]; exact h1
  · rw [show j = 1 - w by omega]; exact h2
/-- A deed of end w: its new state, what was sent by it, told to it, what is on the way to it and from it. -/
theorem InvP.deed {n : Nat} {x : PaM} (h : InvP n x) {w : Nat} (hw : w < 2) {l' : LkS} {sent' told' : List ByteArray} {ww wo : List FrT} {y : PaM}
    (hl : y.l w = l') (hlo : y.l (1 - w) = x.l (1 - w)) (hs : y.sent w = sent') (hso : y.sent (1 - w) = x.sent (1 - w)) (ht : y.told w = told') (hto : y.told (1 - w) = x.told (1 - w)) (hww : y.way w = ww) (hwo : y.way (1 - w) = wo)
    (hE : EndI (eOf w) (eOf (1 - w)) l' (x.l (1 - w)) sent' (x.sent (1 - w)) told') (hp : x.sent w <+: sent') (htk : (x.l w).taken ≤ l'.taken) (hok : l'.Ok)
    (h1 : ∀ f, f ∈ ww → f ∈ x.way w) (h2 : ∀ f, f ∈ wo → f ∈ x.way (1 - w) ∨ FrI (eOf (1 - w)) (eOf w) l' sent' f) (hn1 : ww.length ≤ 8 * (n + 1)) (hn2 : wo.length ≤ 8 * (n + 1)) (hn3 : sent'.length ≤ n + 1) : InvP (n + 1) y := by
  have hw2 : 1 - (1 - w) = w := by omega
  have ho : 1 - w < 2 := by omega
  refine ⟨both hw ?_ ?_, both hw ?_ ?_, both hw ?_ ?_, both hw ?_ ?_, both hw ?_ ?_⟩
  · rw [hl, hlo, hs, hso, ht]; exact hE
  · rw [hw2, hl, hlo, hs, hso, hto]
    have := h.en (1 - w) ho
    rw [hw2] at this
    exact this.grow hp htk
  · intro f hf
    rw [hww] at hf
    rw [hlo, hso]
    exact h.fr w hw f (h1 f hf)
  · intro f hf
    rw [hwo] at hf
    rw [hw2, hl, hs]
    rcases h2 f hf with h2 | h2
    · have := h.fr (1 - w) ho f h2
      rw [hw2] at this
      exact this.grow hp htk
    · exact h2
  · rw [hl]; exact hok
  · rw [hlo]; exact h.ok _ ho
  · rw [hww]; exact hn1
  · rw [hwo]; exact hn2
  · rw [hs]; exact hn3
  · rw [hso]; have := h.sl _ ho; omega
theorem InvP.mono {n m : Nat} {x : PaM} (h : InvP n x) (hm : n ≤ m) : InvP m x := ⟨h.en, h.fr, h.ok, fun w hw => by have := h.wl w hw; omega, fun w hw => by have := h.sl w hw; omega⟩
/-- Sends. -/
theorem EndI.send {e eo : Int} {l lo : LkS} {sent sento told : List ByteArray} (h : EndI e eo l lo sent sento told) (s : ByteArray) (hs : (l.send s).2 = 0) : EndI e eo (l.send s).1 lo (sent ++ [s]) sento told ∧ (l.send s).1.taken = l.taken := by
  unfold LkS.send at hs ⊢
  split
  · rename_i h1; rw [if_pos h1] at hs; exact absurd (show (3 : Int) = 0 from hs) (by decide)
  · rename_i h1
    rw [if_neg h1] at hs
    split
    · rename_i h2; rw [if_pos h2] at hs; exact absurd (show (8 : Int) = 0 from hs) (by decide)
    · refine ⟨⟨h.ep, h.pr, h.pz, h.a0, ?_, ?_, h.t0, h.tl, h.td, h.at_⟩, rfl⟩
      · show l.acked + ((l.wait ++ [_]).length : Nat) = ((sent ++ [s]).length : Nat)
        have := h.al
        rw [List.length_append, List.length_append, List.length_singleton, List.length_singleton]
        omega
      · show (l.wait ++ [_]).map _ = (sent ++ [s]).drop l.acked.toNat
        have := h.al
        have := h.a0
        rw [List.map_append, h.ws, List.drop_append_of_le_length (by omega)]
        rfl
theorem send_no {l : LkS} {s : ByteArray} (hs : (l.send s).2 ≠ 0) : (l.send s).1 = l := by
  unfold LkS.send at hs ⊢
  split
  · rfl
  · rename_i h1
    rw [if_neg h1] at hs
    split
    · rfl
    · rename_i h2; rw [if_neg h2] at hs; exact absurd rfl hs
/-- What waits has other flags. -/
theorem EndI.flags {e eo : Int} {l l' lo : LkS} {sent sento told : List ByteArray} (h : EndI e eo l lo sent sento told) (h1 : l'.epoch = l.epoch) (h2 : l'.peer = l.peer) (h3 : l'.acked = l.acked) (h4 : l'.taken = l.taken) (hw : l'.wait.map (fun b => b.f0) = l.wait.map (fun b => b.f0)) : EndI e eo l' lo sent sento told := by
  have hl : l'.wait.length = l.wait.length := by have := congrArg List.length hw; rwa [List.length_map, List.length_map] at this
  exact ⟨by rw [h1]; exact h.ep, by rw [h2]; exact h.pr, by rw [h2, h4]; exact h.pz, by rw [h3]; exact h.a0, by rw [h3, hl]; exact h.al, by rw [hw, h3]; exact h.ws, by rw [h4]; exact h.t0, by rw [h4]; exact h.tl, by rw [h4]; exact h.td, by rw [h3]; exact h.at_⟩
theorem outs_wait (l : LkS) : l.outs.1.wait.map (fun b => b.f0) = l.wait.map (fun b => b.f0) := by
  show (if l.peer = 0 then l.wait else (l.wait.take 8).map LkS.put1 ++ l.wait.drop 8).map _ = _
  split
  · rfl
  · rw [List.map_append, List.map_map]
    have : ((fun b : BdT => b.f0) ∘ LkS.put1) = (fun b : BdT => b.f0) := by
      funext b
      show (LkS.put1 b).f0 = b.f0
      unfold LkS.put1
      split <;> rfl
    rw [this, ← List.map_append, List.take_append_drop]
theorem tick_wait (l : LkS) : l.tick.wait.map (fun b => b.f0) = l.wait.map (fun b => b.f0) := by
  unfold LkS.tick
  split
  · rfl
  · split
    · rfl
    · show (l.wait.map _).map _ = _
      rw [List.map_map]; rfl
theorem tick_rest (l : LkS) : l.tick.epoch = l.epoch ∧ l.tick.peer = l.peer ∧ l.tick.acked = l.acked ∧ l.tick.taken = l.taken := by
  unfold LkS.tick
  split
  · exact ⟨rfl, rfl, rfl, rfl⟩
  · split <;> exact ⟨rfl, rfl, rfl, rfl⟩
/-- A frame that is due: which one. -/
theorem frs_mem (e p a t : Int) {f : FrT} : ∀ (xs : List BdT) (k : Nat), f ∈ LkS.frs e p a t k xs → ∃ j b, xs[j]? = some b ∧ b.f2 = true ∧ f = ⟨e, p, a + 1 + ((k + j : Nat) : Int), t, b.f0⟩
  | [], _, h => by cases h
  | x :: xs, k, h => by
    unfold LkS.frs at h
    have rec_ : f ∈ LkS.frs e p a t (k + 1) xs → ∃ j b, (x :: xs)[j]? = some b ∧ b.f2 = true ∧ f = ⟨e, p, a + 1 + ((k + j : Nat) : Int), t, b.f0⟩ := fun h => by
      obtain ⟨j, b, h1, h2, h3⟩ := frs_mem e p a t xs (k + 1) h
      exact ⟨j + 1, b, h1, h2, by rw [h3, show k + 1 + j = k + (j + 1) by omega]⟩
    split at h
    · rename_i hx
      rcases List.mem_cons.1 h with h | h
      · exact ⟨0, x, rfl, hx, h⟩
      · exact rec_ h
    · exact rec_ h
/-- A frame that an end puts out. -/
theorem outs_mem {l : LkS} {f : FrT} (h : f ∈ l.outs.2) : f.f0 = l.epoch ∧ f.f1 = l.peer ∧ f.f3 = l.taken ∧ (f.f2 = 0 ∧ f.f4 = ⟨#[]⟩ ∨ l.peer ≠ 0 ∧ ∃ (j : Nat) (b : BdT), j < 8 ∧ l.wait[j]? = some b ∧ b.f2 = true ∧ f.f2 = l.acked + 1 + (j : Int) ∧ f.f4 = b.f0) := by
  have h : f ∈ (if l.due = [] ∧ l.owes = true then [⟨l.epoch, l.peer, 0, l.taken, ⟨#[]⟩⟩] else l.due) := h
  split at h
  · obtain rfl := List.mem_singleton.1 h
    exact ⟨rfl, rfl, rfl, .inl ⟨rfl, rfl⟩⟩
  · unfold LkS.due at h
    split at h
    · cases h
    · rename_i hp
      obtain ⟨j, b, h1, h2, rfl⟩ := frs_mem _ _ _ _ _ _ h
      have hj : j < 8 := by
        have := (List.getElem?_eq_some_iff.1 h1).1
        rw [List.length_take] at this
        omega
      rw [List.getElem?_take, if_pos hj] at h1
      exact ⟨rfl, rfl, rfl, .inr ⟨hp, j, b, hj, h1, h2, by simp, rfl⟩⟩
theorem EndI.body {e eo : Int} {l lo : LkS} {sent sento told : List ByteArray} (h : EndI e eo l lo sent sento told) {j : Nat} {b : BdT} (hb : l.wait[j]? = some b) : sent[l.acked.toNat + j]? = some b.f0 := by
  have h1 : (l.wait.map (fun b => b.f0))[j]? = some b.f0 := by rw [List.getElem?_map, hb]; rfl
  rw [h.ws, List.getElem?_drop] at h1
  exact h1
theorem EndI.outs {e eo : Int} {l lo : LkS} {sent sento told : List ByteArray} (h : EndI e eo l lo sent sento told) : EndI e eo l.outs.1 lo sent sento told ∧ ∀ f, f ∈ l.outs.2 → FrI eo e l.outs.1 sent f := by
  refine ⟨h.flags rfl rfl rfl rfl (outs_wait l), fun f hf => ?_⟩
  obtain ⟨h0, h1, h3, h2⟩ := outs_mem hf
  have ha := h.a0
  have hal := h.al
  rcases h2 with ⟨h2, h4⟩ | ⟨hp, j, b, hj, hb, hd, h2, h4⟩
  · exact ⟨by rw [h0]; exact h.ep, by rw [h1]; exact h.pr, fun _ => h2, by omega, by omega, fun h5 => by omega, by rw [h3]; exact Int.le_refl _⟩
  · have hs := h.body hb
    have hlt := (List.getElem?_eq_some_iff.1 hs).1
    refine ⟨by rw [h0]; exact h.ep, by rw [h1]; exact h.pr, fun h5 => absurd (h1 ▸ h5) hp, by omega, by omega, fun _ => ?_, by rw [h3]; exact Int.le_refl _⟩
    rw [h4, h2, show (l.acked + 1 + (j : Int) - 1).toNat = l.acked.toNat + j by omega, List.getD_eq_getElem?_getD, hs]
    rfl
/-- An acknowledgment. -/
theorem EndI.ackd {e eo : Int} {l lo : LkS} {sent sento told : List ByteArray} (h : EndI e eo l lo sent sento told) {n : Int} (hn : n ≤ lo.taken) : EndI e eo (l.ackd n) lo sent sento told ∧ (l.ackd n).taken = l.taken ∧ (l.ackd n).epoch = l.epoch ∧ (l.ackd n).peer = l.peer := by
  unfold LkS.ackd
  split
  · rename_i hc
    have ha := h.a0
    have hal := h.al
    refine ⟨⟨h.ep, h.pr, h.pz, ?_, ?_, ?_, h.t0, h.tl, h.td, hn⟩, rfl, rfl, rfl⟩
    · show 0 ≤ n; omega
    · show n + ((l.wait.drop (n - l.acked).toNat).length : Nat) = _
      rw [List.length_drop]; omega
    · show (l.wait.drop (n - l.acked).toNat).map _ = sent.drop n.toNat
      rw [List.map_drop, h.ws, List.drop_drop]
      congr 1
      omega
  · exact ⟨h, rfl, rfl, rfl⟩
theorem EndI.meet {e eo : Int} {l lo : LkS} {sent sento told : List ByteArray} (h : EndI e eo l lo sent sento told) (he : 0 < eo) : EndI e eo (l.meet eo) lo sent sento told ∧ (l.meet eo).taken = l.taken ∧ (l.meet eo).peer = eo ∧ ¬ (l.peer < eo ∧ l.peer ≠ 0) := by
  unfold LkS.meet
  rcases h.pr with hp | hp
  · rw [if_pos (by omega), if_neg (by omega)]
    have ht := h.pz hp
    refine ⟨⟨h.ep, .inr rfl, fun h0 => ?_, h.a0, h.al, h.ws, by show (0 : Int) ≤ 0; omega, ?_, ?_, h.at_⟩, ht.symm, rfl, fun h => h.2 hp⟩
    · exact rfl
    · have := h.tl; show (0 : Int) ≤ _; omega
    · have := h.td; rw [ht] at this; exact this
  · rw [if_neg (by omega)]
    exact ⟨h, rfl, hp, fun h => by omega⟩
/-- A frame comes. -/
theorem EndI.take {e eo : Int} {l lo : LkS} {sent sento told : List ByteArray} (h : EndI e eo l lo sent sento told) (he : 0 < eo) {f : FrT} (hf : FrI e eo lo sento f) :
    (l.take f).2.2 = false ∧ (told ++ (l.take f).2.1) <+: sento ∧ EndI e eo (l.take f).1 lo sent sento (told ++ (l.take f).2.1) ∧ l.taken ≤ (l.take f).1.taken := by
  have htd : told <+: sento := by rw [h.td]; exact List.take_prefix _ _
  obtain ⟨hm, hm1, hm2, hm3⟩ := h.meet he
  have hdec : decide (l.peer < f.f0 ∧ l.peer ≠ 0) = false := decide_eq_false (by rw [hf.e0]; exact hm3)
  unfold LkS.take
  split
  · exact ⟨rfl, by rw [List.append_nil]; exact htd, by rw [List.append_nil]; exact h, Int.le_refl _⟩
  · split
    · rw [hf.e0] at hdec ⊢
      exact ⟨hdec, by rw [List.append_nil]; exact htd, by rw [List.append_nil]; exact hm.flags rfl rfl rfl rfl rfl, by show _ ≤ (l.meet eo).taken; omega⟩
    · rename_i hep
      have hep : f.f1 = l.epoch := Classical.not_not.1 hep
      rw [hf.e0] at hdec ⊢
      obtain ⟨hA, hA1, hA2, hA3⟩ := hm.ackd hf.a1
      generalize (l.meet eo).ackd f.f3 = l2 at hA hA1 hA2 hA3 ⊢
      refine ⟨hdec, ?_⟩
      by_cases hc : f.f2 = l2.taken + 1
      · have ht0 := hA.t0
        have hs1 := hf.s1
        have hb := hf.b (by omega)
        rw [show (f.f2 - 1).toNat = l2.taken.toNat by omega] at hb
        have hlt : l2.taken.toNat < sento.length := by omega
        have htk : told ++ [f.f4] = sento.take (l2.taken + 1).toNat := by
          rw [hA.td, show (l2.taken + 1).toNat = l2.taken.toNat + 1 by omega, List.take_add_one, List.getElem?_eq_getElem hlt, hb, List.getD_eq_getElem?_getD, List.getElem?_eq_getElem hlt]
          rfl
        dsimp only
        rw [if_pos hc]
        unfold LkS.take1
        rw [if_pos hc]
        refine ⟨by rw [htk]; exact List.take_prefix _ _, ⟨hA.ep, hA.pr, fun h0 => absurd h0 (by show ¬ l2.peer = 0; omega), hA.a0, hA.al, hA.ws, by show 0 ≤ l2.taken + 1; omega, by show l2.taken + 1 ≤ _; omega, htk, hA.at_⟩, by show _ ≤ l2.taken + 1; omega⟩
      · dsimp only
        rw [if_neg hc, List.append_nil]
        unfold LkS.take1
        rw [if_neg hc]
        exact ⟨htd, hA.flags rfl rfl rfl rfl rfl, by show _ ≤ l2.taken; omega⟩
theorem eOf_pos (w : Nat) : 0 < eOf w := by unfold eOf; omega
theorem PaM.frame_mem {x : PaM} {w i : Nat} (hn : i < (x.way w).length) : x.frame w i ∈ x.way w := getD_mem _ _ _ hn
theorem mem_gone {α : Type} {l : List α} {i : Nat} {f : α} (h : f ∈ l.take i ++ l.drop (i + 1)) : f ∈ l := by
  rcases List.mem_append.1 h with h | h
  · exact List.mem_of_mem_take h
  · exact List.mem_of_mem_drop h
/-- A turn keeps what always holds, and is told rightly. -/
theorem InvP.fine {n : Nat} {x : PaM} (h : InvP n x) (t : TurnT) : x.fine t := by
  intro w i hw _ _ hn hi
  have hw2 : w < 2 := by rw [hw]; exact pickN_lt _ _ (by decide)
  have hi2 : i < (x.way w).length := by rw [hi]; exact pickN_lt _ _ (List.length_pos_iff.mpr hn)
  obtain ⟨h1, h2, -⟩ := (h.en w hw2).take (eOf_pos _) (h.fr w hw2 _ (x.frame_mem hi2))
  exact ⟨h1, h2⟩
theorem InvP.pa_ok {n : Nat} {x : PaM} (h : InvP n x) (hn : n ≤ 12500) : x.Ok where
  l := h.ok
  way := fun w hw => by have := h.wl w hw; omega
  sent := fun w hw => by have := h.sl w hw; omega
  told := fun w hw => by
    have := h.sl (1 - w) (by omega)
    rw [(h.en w hw).td, List.length_take]
    omega
  f0 := fun w hw f hf => by rw [(h.fr w hw f hf).e0]; have := eOf_pos (1 - w); omega
theorem come_lo {x : PaM} {w k i : Nat} (hw : w < 2) : (x.come w k i).l (1 - w) = x.l (1 - w) ∧ (x.come w k i).sent = x.sent ∧ (x.come w k i).told (1 - w) = x.told (1 - w) ∧ (x.come w k i).way (1 - w) = x.way (1 - w) ∧ (∀ f, f ∈ (x.come w k i).way w → f ∈ x.way w) ∧ ((x.come w k i).way w).length ≤ (x.way w).length := by
  have hne : 1 - w ≠ w := by omega
  have hg : (x.gone w k i).l = x.l ∧ (x.gone w k i).sent = x.sent ∧ (x.gone w k i).told = x.told ∧ (x.gone w k i).way (1 - w) = x.way (1 - w) ∧ (∀ f, f ∈ (x.gone w k i).way w → f ∈ x.way w) ∧ ((x.gone w k i).way w).length ≤ (x.way w).length := by
    unfold PaM.gone
    split
    · exact ⟨rfl, rfl, rfl, rfl, fun _ h => h, Nat.le_refl _⟩
    · refine ⟨rfl, rfl, rfl, upd_ne _ _ hne, fun f hf => ?_, ?_⟩
      · rw [show ({ x with way := upd x.way w ((x.way w).take i ++ (x.way w).drop (i + 1)) } : PaM).way w = _ from upd_same _ _ _] at hf
        exact mem_gone hf
      · rw [show ({ x with way := upd x.way w ((x.way w).take i ++ (x.way w).drop (i + 1)) } : PaM).way w = _ from upd_same _ _ _, List.length_append, List.length_take, List.length_drop]
        omega
  obtain ⟨g1, g2, g3, g4, g5, g6⟩ := hg
  unfold PaM.come
  split
  · exact ⟨by rw [g1], g2, by rw [g3], g4, g5, g6⟩
  · exact ⟨upd_ne _ _ hne, g2, upd_ne _ _ hne, g4, g5, g6⟩
theorem InvP.turn {n : Nat} {x : PaM} (h : InvP n x) (t : TurnT) : InvP (n + 1) (x.turn t) := by
  have hw2 : pickN t.f1 2 < 2 := pickN_lt _ _ (by decide)
  unfold PaM.turn
  generalize hw : pickN t.f1 2 = w at hw2 ⊢
  have hne : 1 - w ≠ w := by omega
  have ho : 1 - w < 2 := by omega
  have hE := h.en w hw2
  have hwl := h.wl w hw2
  have hwl2 := h.wl (1 - w) ho
  have hsl := h.sl w hw2
  split
  · unfold PaM.sendM
    by_cases hs : ((x.l w).send t.f3).2 = 0
    · rw [if_pos hs]
      obtain ⟨h1, h2⟩ := hE.send t.f3 hs
      exact h.deed (ww := x.way w) (wo := x.way (1 - w)) hw2 (upd_same _ _ _) (upd_ne _ _ hne) (upd_same _ _ _) (upd_ne _ _ hne) rfl rfl rfl rfl h1 (List.prefix_append _ _) (by omega) ((h.ok w hw2).send _) (fun _ h => h) (fun _ h => .inl h) (by omega) (by omega) (by rw [List.length_append, List.length_singleton]; omega)
    · rw [if_neg hs, send_no hs]
      exact h.deed (l' := x.l w) (ww := x.way w) (wo := x.way (1 - w)) (sent' := x.sent w) hw2 (upd_same _ _ _) (upd_ne _ _ hne) rfl rfl rfl rfl rfl rfl hE (List.prefix_refl _) (Int.le_refl _) (h.ok w hw2) (fun _ h => h) (fun _ h => .inl h) (by omega) (by omega) (by omega)
  · split
    · unfold PaM.outM
      obtain ⟨h1, h2⟩ := hE.outs
      refine h.deed (ww := x.way w) (sent' := x.sent w) hw2 (upd_same _ _ _) (upd_ne _ _ hne) rfl rfl rfl rfl (upd_ne _ _ (Ne.symm hne)) (upd_same _ _ _) h1 (List.prefix_refl _) (Int.le_refl _) (h.ok w hw2).outs (fun _ h => h) (fun f hf => (List.mem_append.1 hf).imp id (h2 f)) (by omega) ?_ (by omega)
      have := (x.l w).outs_len
      rw [List.length_append]
      omega
    · split
      · unfold PaM.tickM
        obtain ⟨t1, t2, t3, t4⟩ := tick_rest (x.l w)
        exact h.deed (ww := x.way w) (wo := x.way (1 - w)) (sent' := x.sent w) hw2 (upd_same _ _ _) (upd_ne _ _ hne) rfl rfl rfl rfl rfl rfl (hE.flags t1 t2 t3 t4 (tick_wait _)) (List.prefix_refl _) (by rw [t4]; exact Int.le_refl _) (h.ok w hw2).tick (fun _ h => h) (fun _ h => .inl h) (by omega) (by omega) (by omega)
      · split
        · exact h.mono (by omega)
        · rename_i hn
          generalize hi : pickN t.f2 (x.way w).length = i
          have hi2 : i < (x.way w).length := by rw [← hi]; exact pickN_lt _ _ (List.length_pos_iff.mpr hn)
          generalize pickN t.f0 6 = k
          obtain ⟨c1, c2, c3, c4, c5, c6⟩ := come_lo (x := x) (k := k) (i := i) hw2
          obtain ⟨-, -, h3, h4⟩ := hE.take (eOf_pos _) (h.fr w hw2 _ (x.frame_mem hi2))
          by_cases hk : k = 4
          · have e1 : (x.come w k i).l w = x.l w ∧ (x.come w k i).told w = x.told w := by
              unfold PaM.come PaM.gone
              rw [if_pos hk]
              split <;> exact ⟨rfl, rfl⟩
            exact h.deed hw2 e1.1 c1 rfl (by rw [c2]) e1.2 c3 rfl rfl (by rw [c2]; exact hE) (by rw [c2]; exact List.prefix_refl _) (Int.le_refl _) (h.ok w hw2) c5 (fun f hf => .inl (by rw [← c4]; exact hf)) (by omega) (by rw [c4]; omega) (by rw [c2]; omega)
          · have e1 : (x.come w k i).l w = ((x.l w).take (x.frame w i)).1 ∧ (x.come w k i).told w = x.told w ++ ((x.l w).take (x.frame w i)).2.1 := by
              unfold PaM.come
              rw [if_neg hk]
              exact ⟨upd_same _ _ _, upd_same _ _ _⟩
            exact h.deed hw2 e1.1 c1 rfl (by rw [c2]) e1.2 c3 rfl rfl (by rw [c2]; exact h3) (by rw [c2]; exact List.prefix_refl _) h4 ((h.ok w hw2).take _) c5 (fun f hf => .inl (by rw [← c4]; exact hf)) (by omega) (by rw [c4]; omega) (by rw [c2]; omega)
theorem InvP.start : InvP 0 PaM.start := by
  refine ⟨fun w hw => ?_, fun _ _ f hf => (by cases hf), fun w hw => LkS.Ok.begin_ _, fun _ _ => Nat.le_refl _, fun _ _ => Nat.le_refl _⟩
  exact ⟨rfl, .inl rfl, fun _ => rfl, Int.le_refl _, rfl, rfl, Int.le_refl _, Int.le_refl _, rfl, Int.le_refl _⟩

end Go.Proofs.Ytdpogggajdfedaa.P
