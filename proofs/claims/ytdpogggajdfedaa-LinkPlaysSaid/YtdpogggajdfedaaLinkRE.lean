import Derived.Test.YtdpogggajdfedaaLinkRA
import Derived.Outline
import Derived.Laws.BitsAllLaws
import Derived.WalkSpells
import Derived.StillTailTactics
namespace Go.Proofs.Ytdpogggajdfedaa.P
open Go.RowKit Go.Proofs.YtdpogggajdfedaaW.PrintWords Go.Proofs.YtdpogggajdfedaaW.PrintLast Go.Proofs.YtdpogggajdfedaaW.PrintMore
attribute [local go_sem] max2_int min2_int max_two min_two max_three min_three max_four min_four
set_option linter.unusedVariables false
set_option linter.unusedSimpArgs false
/-! ### An end and the document's one -/
structure Rel (l : LkS) (r : RlS) : Prop where
  ep : r.epoch = l.epoch
  pe : r.peer = l.peer
  wt : l.wait.map (fun b => b.f0) = r.wait
  fi : r.first = l.acked + 1
  tk : r.taken = l.taken
  ow : r.owes = l.owes
  ti : r.ticks = l.ticks
  d0 : 0 ≤ r.due
  du : r.due ≤ r.out
  o8 : r.out ≤ 8
  on : r.out ≤ l.wait.length
  fl : ∀ (k : Nat) (b : BdT), l.wait[k]? = some b → b.f1 = decide ((k : Int) < r.out) ∧ b.f2 = decide (r.due ≤ (k : Int))
  z : r.out = 0 → l.ticks = 0
theorem outs_wait' (l : LkS) : l.outs.1.wait.map (fun b => b.f0) = l.wait.map (fun b => b.f0) := by
  show (if l.peer = 0 then l.wait else (l.wait.take 8).map LkS.put1 ++ l.wait.drop 8).map _ = _
  split
  · rfl
  · rw [List.map_append, List.map_map]
    have : ((fun b : BdT => b.f0) ∘ LkS.put1) = (fun b : BdT => b.f0) := by
      funext b
      show (LkS.put1 b).f0 = b.f0
      unfold LkS.put1
      split <;> rfl
    rw [this, ← List.map_append, List.take_append_drop]
namespace Rel
variable {l : LkS} {r : RlS}
theorem len (h : Rel l r) : r.wait.length = l.wait.length := by rw [← h.wt, List.length_map]
theorem ok (h : Rel l r) (hl : l.Ok) : r.Ok where
  p0 := by rw [h.pe]; exact hl.p0
  f0 := by rw [h.fi]; have := hl.a0; omega
  f1 := by rw [h.fi]; have := hl.a1; omega
  d0 := h.d0
  o0 := h.du
  o1 := h.o8
  o2 := by rw [h.len]; exact h.on
  t0 := by rw [h.tk]; exact hl.t0
  t1 := by rw [h.tk]; exact hl.t1
  k0 := by rw [h.ti]; exact hl.k0
  k1 := by rw [h.ti]; exact hl.k1
  w := by rw [h.len]; exact hl.w
theorem begin_ (n : Int) : Rel (LkS.begin_ n) (RlS.begin_ n) where
  ep := rfl
  pe := rfl
  wt := rfl
  fi := rfl
  tk := rfl
  ow := rfl
  ti := rfl
  d0 := Int.le_refl _
  du := Int.le_refl _
  o8 := by show (0 : Int) ≤ 8; decide
  on := Int.le_refl _
  fl := fun k b hb => by cases hb
  z := fun _ => rfl
theorem isOut (h : Rel l r) : l.isOut = decide (r.out ≠ 0) := by
  have hf := h.fl
  have hon := h.on
  have hd := h.d0
  have hdu := h.du
  unfold LkS.isOut
  cases hw : l.wait with
  | nil =>
    rw [hw] at hon
    simp only [List.length_nil] at hon
    exact (decide_eq_false (by omega)).symm
  | cons b bs =>
    have := (hf 0 b (by rw [hw]; rfl)).1
    show b.f1 = _
    rw [this, decide_eq_decide]
    omega
theorem send (h : Rel l r) (s : ByteArray) : Rel (l.send s).1 (r.send s).1 ∧ (l.send s).2 = (r.send s).2 := by
  unfold LkS.send RlS.send
  rw [h.len]
  split
  · exact ⟨h, rfl⟩
  · split
    · exact ⟨h, rfl⟩
    · refine ⟨⟨h.ep, h.pe, ?_, h.fi, h.tk, h.ow, h.ti, h.d0, h.du, h.o8, ?_, fun k b hb => ?_, h.z⟩, rfl⟩
      · show (l.wait ++ [_]).map _ = r.wait ++ [s]
        rw [List.map_append, h.wt]
        rfl
      · show r.out ≤ ((l.wait ++ [_]).length : Nat)
        rw [List.length_append, List.length_singleton]
        have := h.on
        omega
      · have hb : (l.wait ++ [(⟨s, false, true⟩ : BdT)])[k]? = some b := hb
        rw [List.getElem?_append] at hb
        split at hb
        · exact h.fl k b hb
        · rename_i hk
          have hlt := (List.getElem?_eq_some_iff.1 hb).1
          rw [List.length_singleton] at hlt
          rw [show k - l.wait.length = 0 by omega] at hb
          injection hb with hb
          subst hb
          have := h.on
          have := h.du
          exact ⟨(decide_eq_false (by show ¬ (k : Int) < r.out; omega)).symm, (decide_eq_true (by show r.due ≤ (k : Int); omega)).symm⟩
theorem tick (h : Rel l r) (hl : l.Ok) : Rel l.tick r.tick := by
  have hk0 := hl.k0
  have hk1 := hl.k1
  unfold LkS.tick RlS.tick
  rw [h.isOut]
  by_cases ho : r.out = 0
  · rw [if_pos (decide_eq_false (fun e => e ho)), if_pos ho]
    exact ⟨h.ep, h.pe, h.wt, h.fi, h.tk, by show (r.owes || _) = (l.owes || _); rw [h.ow, h.pe], h.ti, h.d0, h.du, h.o8, h.on, h.fl, h.z⟩
  · rw [if_neg (by rw [decide_eq_true ho]; simp), if_neg ho, h.ti]
    by_cases hc : l.ticks + 1 < 3
    · rw [if_pos hc, if_neg (by omega)]
      exact ⟨h.ep, h.pe, h.wt, h.fi, h.tk, by show (r.owes || _) = (l.owes || _); rw [h.ow, h.pe], rfl, h.d0, h.du, h.o8, h.on, h.fl, fun e => absurd e ho⟩
    · rw [if_neg hc, if_pos (by omega)]
      refine ⟨h.ep, h.pe, ?_, h.fi, h.tk, by show (r.owes || _) = (l.owes || _); rw [h.ow, h.pe], rfl, Int.le_refl _, ?_, h.o8, ?_, fun k b hb => ?_, fun _ => rfl⟩
      · show (l.wait.map _).map _ = r.wait
        rw [List.map_map]
        exact h.wt
      · show (0 : Int) ≤ r.out
        have := h.d0
        have := h.du
        omega
      · show r.out ≤ ((l.wait.map _).length : Nat)
        rw [List.length_map]
        exact h.on
      · have hb : (l.wait.map fun x : BdT => (⟨x.f0, x.f1, true⟩ : BdT))[k]? = some b := hb
        rw [List.getElem?_map, Option.map_eq_some_iff] at hb
        obtain ⟨b0, h0, rfl⟩ := hb
        exact ⟨(h.fl k b0 h0).1, (decide_eq_true (by show (0 : Int) ≤ (k : Int); omega)).symm⟩
theorem putN_is (r : RlS) (k : Nat) (hk : r.due = (k : Int)) (hd : r.due ≤ r.out) (hz : r.out = 0 → r.ticks = 0) : ∀ n, r.putN k n = { r with out := if n = 0 then r.out else max r.out ((k + n : Nat) : Int), due := ((k + n : Nat) : Int) }
  | 0 => by
    show r = _
    rw [if_pos rfl, Nat.add_zero, ← hk]
  | n + 1 => by
    unfold RlS.putN
    rw [putN_is r k hk hd hz n]
    obtain ⟨y, hy⟩ : ∃ y, (if n = 0 then r.out else max r.out ((k + n : Nat) : Int)) = y := ⟨_, rfl⟩
    have hy0 : y = 0 → r.out = 0 := fun e => by rw [← hy] at e; split at e <;> omega
    have hym : max y (((k + n : Nat) : Int) + 1) = max r.out ((k + (n + 1) : Nat) : Int) := by rw [← hy]; split <;> omega
    have e0 : (if n + 1 = 0 then r.out else max r.out ((k + (n + 1) : Nat) : Int)) = max r.out ((k + (n + 1) : Nat) : Int) := if_neg (by omega)
    have e1 : (if y = 0 then 0 else r.ticks) = r.ticks := by
      by_cases h0 : y = 0
      · rw [if_pos h0, hz (hy0 h0)]
      · rw [if_neg h0]
    have e3 : ((k + n : Nat) : Int) + 1 = ((k + (n + 1) : Nat) : Int) := by omega
    rw [hy, e0, ← hym, ← e3]
    show ({ r with ticks := (if y = 0 then 0 else r.ticks), out := max y (((k + n : Nat) : Int) + 1), due := ((k + n : Nat) : Int) + 1 } : RlS) = _
    rw [e1]
theorem frs_is (h : Rel l r) (d : Nat) (hd : r.due = (d : Int)) : ∀ m, m ≤ l.wait.length → LkS.frs l.epoch l.peer l.acked l.taken 0 (l.wait.take m) = r.frN d (m - d)
  | 0, _ => by
    rw [Nat.zero_sub]
    rfl
  | m + 1, hm => by
    have hlt : m < l.wait.length := by omega
    have hb := List.getElem?_eq_getElem hlt
    have hf := (h.fl m _ hb).2
    have ih := frs_is h d hd m (by omega)
    rw [List.take_add_one, hb]
    show LkS.frs _ _ _ _ 0 (l.wait.take m ++ [l.wait[m]]) = _
    rw [LkS.frs_snoc, ih, hf, List.length_take, Nat.min_eq_left (by omega), Nat.zero_add]
    by_cases hdm : d ≤ m
    · rw [if_pos (decide_eq_true (by omega)), show m + 1 - d = (m - d) + 1 by omega]
      show _ = r.frN d (m - d) ++ [r.fr (d + (m - d))]
      have hw : r.wait.getD m ByteArray.empty = l.wait[m].f0 := by
        rw [← h.wt, List.getD_eq_getElem?_getD, List.getElem?_map, hb]
        rfl
      unfold RlS.fr
      rw [show d + (m - d) = m by omega, hw, h.ep, h.pe, h.fi, h.tk]
    · rw [if_neg (by rw [decide_eq_false (by omega)]; simp), List.append_nil, show m + 1 - d = 0 by omega, show m - d = 0 by omega]
theorem outs (h : Rel l r) (hl : l.Ok) : Rel l.outs.1 r.outs.1 ∧ l.outs.2 = r.outs.2 := by
  have hd0 := h.d0
  have hdu := h.du
  have ho8 := h.o8
  have hon := h.on
  obtain ⟨d, hd⟩ : ∃ d : Nat, r.due = (d : Int) := ⟨r.due.toNat, by omega⟩
  have hdt : r.due.toNat = d := by omega
  have hz : r.out = 0 → r.ticks = 0 := fun e => by rw [h.ti]; exact h.z e
  have hpN := putN_is r d hd hdu hz r.many
  have ho1 : r.outs.1 = { r with out := if r.many = 0 then r.out else max r.out ((d + r.many : Nat) : Int), due := ((d + r.many : Nat) : Int), owes := false } := by
    show { r.putN r.due.toNat r.many with owes := false } = _
    rw [hdt, hpN]
  have hticks : l.outs.1.ticks = l.ticks := by
    show (if l.peer ≠ 0 ∧ l.isOut = false then (0 : Int) else l.ticks) = _
    split
    · rename_i hc
      rw [h.isOut] at hc
      exact (h.z (Classical.not_not.1 (of_decide_eq_false hc.2))).symm
    · rfl
  have hmany : r.many = if l.peer = 0 then 0 else min l.wait.length 8 - d := by
    unfold RlS.many
    rw [h.pe, h.len, hdt]
  have hfr : l.due = r.frN d r.many := by
    unfold LkS.due
    rw [hmany]
    split
    · rfl
    · rw [← h.frs_is d hd _ (Nat.min_le_left _ _)]
      congr 1
      by_cases h8 : l.wait.length ≤ 8
      · rw [Nat.min_eq_left h8, List.take_of_length_le h8, List.take_of_length_le (Nat.le_refl _)]
      · rw [Nat.min_eq_right (by omega)]
  have hw : l.outs.1.wait.map (fun b => b.f0) = l.wait.map (fun b => b.f0) := outs_wait' l
  have hwl : l.outs.1.wait.length = l.wait.length := by have := congrArg List.length hw; rwa [List.length_map, List.length_map] at this
  constructor
  · rw [ho1]
    obtain ⟨M, hM⟩ : ∃ M, r.many = M := ⟨_, rfl⟩
    rw [hM] at hmany ⊢
    have hMle : d + M ≤ 8 ∧ d + M ≤ l.wait.length := by
      rw [hmany]
      split <;> omega
    refine ⟨h.ep, h.pe, by rw [hw]; exact h.wt, h.fi, h.tk, rfl, by rw [hticks]; exact h.ti, by show (0 : Int) ≤ ((d + M : Nat) : Int); omega, ?_, ?_, ?_, fun k b hb => ?_, fun e => ?_⟩
    · show ((d + M : Nat) : Int) ≤ if M = 0 then r.out else max r.out ((d + M : Nat) : Int)
      split <;> omega
    · show (if M = 0 then r.out else max r.out ((d + M : Nat) : Int)) ≤ 8
      split <;> omega
    · show (if M = 0 then r.out else max r.out ((d + M : Nat) : Int)) ≤ _
      rw [hwl]
      split <;> omega
    · show b.f1 = decide ((k : Int) < if M = 0 then r.out else max r.out ((d + M : Nat) : Int)) ∧ b.f2 = decide (((d + M : Nat) : Int) ≤ (k : Int))
      have hb : (if l.peer = 0 then l.wait else (l.wait.take 8).map LkS.put1 ++ l.wait.drop 8)[k]? = some b := hb
      by_cases hp : l.peer = 0
      · rw [if_pos hp] at hb hmany
        rw [hmany, if_pos rfl, Nat.add_zero, ← hd]
        exact h.fl k b hb
      · rw [if_neg hp] at hb hmany
        rw [List.getElem?_append, List.length_map, List.length_take] at hb
        by_cases hk : k < min 8 l.wait.length
        · rw [if_pos hk, List.getElem?_map, Option.map_eq_some_iff] at hb
          obtain ⟨b0, h0, rfl⟩ := hb
          rw [List.getElem?_take, if_pos (by omega)] at h0
          obtain ⟨g1, g2⟩ := h.fl k b0 h0
          rw [hd] at g2
          unfold LkS.put1
          by_cases hdk : d ≤ k
          · rw [if_pos (by rw [g2]; exact decide_eq_true (by omega)), if_neg (by omega)]
            exact ⟨(decide_eq_true (by omega)).symm, (decide_eq_false (by omega)).symm⟩
          · rw [if_neg (by rw [g2, decide_eq_false (by omega)]; simp)]
            refine ⟨by rw [g1, decide_eq_true (by omega)]; symm; apply decide_eq_true; split <;> omega, by rw [g2, decide_eq_false (by omega), decide_eq_false (by omega)]⟩
        · rw [if_neg hk, List.getElem?_drop] at hb
          have hlt := (List.getElem?_eq_some_iff.1 hb).1
          obtain ⟨g1, g2⟩ := h.fl _ b hb
          rw [show 8 + (k - min 8 l.wait.length) = k by omega] at g1 g2
          refine ⟨by rw [g1, decide_eq_decide]; split <;> omega, by rw [g2, hd, decide_eq_decide]; omega⟩
    · have e : (if M = 0 then r.out else max r.out ((d + M : Nat) : Int)) = 0 := e
      rw [hticks]
      apply h.z
      split at e <;> omega
  · show (if l.due = [] ∧ l.owes = true then _ else l.due) = (if r.frN r.due.toNat r.many = [] ∧ r.owes = true then _ else r.frN r.due.toNat r.many)
    rw [hdt, hfr, h.ow, h.ep, h.pe, h.tk]
theorem meet (h : Rel l r) (e : Int) : Rel (l.meet e) (r.meet e) := by
  unfold LkS.meet RlS.meet
  rw [h.pe]
  split
  · split
    · exact ⟨h.ep, rfl, rfl, rfl, rfl, h.ow, rfl, Int.le_refl _, Int.le_refl _, by show (0 : Int) ≤ 8; decide, by show (0 : Int) ≤ 0; decide, (fun k b hb => by cases hb), fun _ => rfl⟩
    · exact ⟨h.ep, rfl, h.wt, h.fi, rfl, h.ow, h.ti, h.d0, h.du, h.o8, h.on, h.fl, h.z⟩
  · exact h
theorem ackd (h : Rel l r) (a : Int) : Rel (l.ackd a) (r.ackd a) := by
  have hon := h.on
  have hd0 := h.d0
  have hdu := h.du
  have ho8 := h.o8
  have hfi := h.fi
  have hce : a - r.first + 1 = a - l.acked := by omega
  unfold LkS.ackd RlS.ackd
  rw [hce]
  obtain ⟨c, hc⟩ : ∃ c, a - l.acked = c := ⟨_, rfl⟩
  rw [hc]
  by_cases hC : 0 < c ∧ c ≤ r.out
  · have hlt : (c - 1).toNat < l.wait.length := by omega
    have hf := (h.fl _ _ (List.getElem?_eq_getElem hlt)).1
    rw [if_pos ⟨by omega, by omega, by rw [List.getD_eq_getElem?_getD, List.getElem?_eq_getElem hlt]; show l.wait[(c - 1).toNat].f1 = true; rw [hf]; exact decide_eq_true (by omega)⟩, if_pos hC]
    refine ⟨h.ep, h.pe, ?_, ?_, h.tk, h.ow, rfl, ?_, ?_, ?_, ?_, fun k b hb => ?_, fun _ => rfl⟩
    · show (l.wait.drop c.toNat).map _ = r.wait.drop c.toNat
      rw [List.map_drop, h.wt]
    · show r.first + c = a + 1; omega
    · show 0 ≤ max 0 (r.due - c); omega
    · show max 0 (r.due - c) ≤ r.out - c; omega
    · show r.out - c ≤ 8; omega
    · show r.out - c ≤ ((l.wait.drop c.toNat).length : Nat); rw [List.length_drop]; omega
    · have hb : (l.wait.drop c.toNat)[k]? = some b := hb
      rw [List.getElem?_drop] at hb
      obtain ⟨g1, g2⟩ := h.fl _ b hb
      refine ⟨?_, ?_⟩
      · rw [g1, decide_eq_decide]; show _ ↔ (k : Int) < r.out - c; omega
      · rw [g2, decide_eq_decide]; show _ ↔ max 0 (r.due - c) ≤ (k : Int); omega
  · rw [if_neg hC, if_neg (fun hx => ?_)]
    · exact h
    · obtain ⟨x1, x2, x3⟩ := hx
      have hlt : (c - 1).toNat < l.wait.length := by omega
      rw [List.getD_eq_getElem?_getD, List.getElem?_eq_getElem hlt] at x3
      have x3 : l.wait[(c - 1).toNat].f1 = true := x3
      rw [(h.fl _ _ (List.getElem?_eq_getElem hlt)).1] at x3
      have := of_decide_eq_true x3
      omega
theorem take1 (h : Rel l r) (f : FrT) : Rel (l.take1 f) (r.take1 f) := by
  unfold LkS.take1 RlS.take1
  rw [h.tk]
  split
  · exact ⟨h.ep, h.pe, h.wt, h.fi, rfl, by show (r.owes || _) = (l.owes || _); rw [h.ow], h.ti, h.d0, h.du, h.o8, h.on, h.fl, h.z⟩
  · exact ⟨h.ep, h.pe, h.wt, h.fi, rfl, by show (r.owes || _) = (l.owes || _); rw [h.ow], h.ti, h.d0, h.du, h.o8, h.on, h.fl, h.z⟩
theorem take (h : Rel l r) (f : FrT) : Rel (l.take f).1 (r.take f).1 ∧ (l.take f).2 = (r.take f).2 := by
  unfold LkS.take RlS.take
  rw [h.pe, h.ep]
  split
  · exact ⟨h, rfl⟩
  · have hm := h.meet f.f0
    split
    · exact ⟨⟨hm.ep, hm.pe, hm.wt, hm.fi, hm.tk, rfl, hm.ti, hm.d0, hm.du, hm.o8, hm.on, hm.fl, hm.z⟩, rfl⟩
    · have ha := hm.ackd f.f3
      refine ⟨ha.take1 f, ?_⟩
      show ((if f.f2 = ((l.meet f.f0).ackd f.f3).taken + 1 then [f.f4] else []), _) = ((if f.f2 = ((r.meet f.f0).ackd f.f3).taken + 1 then [f.f4] else []), _)
      rw [ha.tk]
end Rel

end Go.Proofs.Ytdpogggajdfedaa.P
