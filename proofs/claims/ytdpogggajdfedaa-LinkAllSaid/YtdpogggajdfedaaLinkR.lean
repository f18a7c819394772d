import Derived.Test.YtdpogggajdfedaaLinkM
import Derived.Outline
import Derived.Laws.BitsAllLaws
import Derived.WalkSpells
import Derived.StillTailTactics
namespace Go.Proofs.Ytdpogggajdfedaa.P
open Go.RowKit Go.Proofs.YtdpogggajdfedaaW.PrintWords Go.Proofs.YtdpogggajdfedaaW.PrintLast Go.Proofs.YtdpogggajdfedaaW.PrintMore
attribute [local go_sem] max2_int min2_int max_two min_two max_three min_three max_four min_four
set_option linter.unusedVariables false
set_option linter.unusedSimpArgs false
/-! ### Which of those that wait were put out -/
def rkS (n m h t : Nat) (o : Bool) : Nat := if h = m ∧ (h = 0 ∨ o = true) then 2 * n - h else if h = m then 64 + (3 - t) else 64 + (3 - t) + (if 0 < h then 4 else 0)
theorem rk_le (n m h t : Nat) (o : Bool) (hn : n ≤ 32) : rkS n m h t o ≤ 71 := by
  unfold rkS
  split <;> (try split) <;> (try split) <;> omega
theorem rk_zero {n m h t : Nat} {o : Bool} (hh : h ≤ n) (ht : t ≤ 2) (h0 : rkS n m h t o = 0) : n = 0 := by
  unfold rkS at h0
  split at h0
  · omega
  · split at h0 <;> omega
set_option maxHeartbeats 4000000 in
theorem rk_step (n m h t h1 c : Nat) (o rE em : Bool) (hn : n ≤ 32) (hm : m ≤ 8) (hmn : m ≤ n) (hh : h ≤ m) (ht : t ≤ 2) (hr : o = true → rE = true)
    (e1 : h1 = if (0 < m ∧ 2 ≤ t) ∨ h = m then min 8 n else h) (e2 : em = true ↔ if 0 < m ∧ 2 ≤ t then 0 < n else m < min 8 n) (e3 : c = if rE = true then h else 0) :
    rkS (n - c) (min 8 n - c) (h1 - c) (if 0 < c ∨ (0 < m ∧ 2 ≤ t) ∨ m = 0 then 0 else t + 1) em + 1 ≤ rkS n m h t o ∨ (rkS n m h t o = 0 ∧ rkS (n - c) (min 8 n - c) (h1 - c) (if 0 < c ∨ (0 < m ∧ 2 ≤ t) ∨ m = 0 then 0 else t + 1) em = 0) := by
  unfold rkS
  cases o <;> cases rE <;> cases em <;> simp only [true_iff, false_iff, Bool.false_eq_true, if_false, if_true, false_implies, true_implies, or_false, or_true, and_true, and_false, reduceCtorEq] at * <;> subst e3 <;> (repeat' split at e1) <;> subst e1 <;> (repeat' split at e2) <;> (repeat' split) <;> omega
structure OutI (l : LkS) (T : Int) (n m h : Nat) : Prop where
  ln : l.wait.length = n
  lt : l.acked + (h : Int) = T
  hm : h ≤ m
  m8 : m ≤ 8
  mn : m ≤ n
  f : ∀ (k : Nat) (b : BdT), l.wait[k]? = some b → b.f1 = decide (k < m) ∧ (m ≤ k → b.f2 = true)
theorem OutI.congr {l l' : LkS} {T : Int} {n m h : Nat} (o : OutI l T n m h) (h1 : l'.wait = l.wait) (h2 : l'.acked = l.acked) : OutI l' T n m h :=
  ⟨by rw [h1]; exact o.ln, by rw [h2]; exact o.lt, o.hm, o.m8, o.mn, fun k b hb => o.f k b (by rw [← h1]; exact hb)⟩
theorem OutI.isOut {l : LkS} {T : Int} {n m h : Nat} (o : OutI l T n m h) : l.isOut = decide (0 < m) := by
  unfold LkS.isOut
  have hn := o.ln
  have hm := o.mn
  have hf := o.f
  cases hw : l.wait with
  | nil =>
    rw [hw] at hn
    simp at hn
    have : m = 0 := by omega
    simp [this]
  | cons b bs => exact (hf 0 b (by rw [hw]; rfl)).1
theorem OutI.tick {l : LkS} {T : Int} {n m h : Nat} (o : OutI l T n m h) : OutI l.tick T n m h := by
  unfold LkS.tick
  split
  · exact o.congr rfl rfl
  · split
    · exact o.congr rfl rfl
    · refine ⟨by show (l.wait.map _).length = n; rw [List.length_map]; exact o.ln, o.lt, o.hm, o.m8, o.mn, fun k b hb => ?_⟩
      have hb : (l.wait.map fun x : BdT => (⟨x.f0, x.f1, true⟩ : BdT))[k]? = some b := hb
      rw [List.getElem?_map, Option.map_eq_some_iff] at hb
      obtain ⟨b0, h0, rfl⟩ := hb
      exact ⟨(o.f k b0 h0).1, fun _ => rfl⟩
/-- The flags behind Out. -/
theorem OutI.put {l : LkS} {T : Int} {n m h : Nat} (o : OutI l T n m h) (hp : l.peer ≠ 0) (k : Nat) (b : BdT) (hb : l.outs.1.wait[k]? = some b) : b.f1 = decide (k < min 8 n) ∧ b.f2 = decide (min 8 n ≤ k) := by
  have hb : (if l.peer = 0 then l.wait else (l.wait.take 8).map LkS.put1 ++ l.wait.drop 8)[k]? = some b := hb
  rw [if_neg hp, List.getElem?_append, List.length_map, List.length_take, o.ln] at hb
  have hm8 := o.m8
  have hmn := o.mn
  by_cases hk : k < min 8 n
  · rw [if_pos hk, List.getElem?_map, Option.map_eq_some_iff] at hb
    obtain ⟨b0, h0, rfl⟩ := hb
    rw [List.getElem?_take, if_pos (by omega)] at h0
    obtain ⟨g1, g2⟩ := o.f k b0 h0
    rw [decide_eq_true hk, decide_eq_false (by omega)]
    unfold LkS.put1
    split
    · exact ⟨rfl, rfl⟩
    · rename_i hd
      have hkm : k < m := Classical.not_not.1 fun e => hd (g2 (by omega))
      exact ⟨by rw [g1, decide_eq_true hkm], by simpa using hd⟩
  · rw [if_neg hk, List.getElem?_drop] at hb
    have hlt := (List.getElem?_eq_some_iff.1 hb).1
    rw [o.ln] at hlt
    obtain ⟨g1, g2⟩ := o.f _ b hb
    rw [decide_eq_false hk, decide_eq_true (by omega), g1, decide_eq_false (by omega)]
    exact ⟨rfl, g2 (by omega)⟩
theorem OutI.outs {l : LkS} {T : Int} {n m h : Nat} (o : OutI l T n m h) (hp : l.peer ≠ 0) : OutI l.outs.1 T n (min 8 n) h := by
  have hm8 := o.m8
  have hmn := o.mn
  have hh := o.hm
  refine ⟨?_, o.lt, by omega, by omega, by omega, fun k b hb => ?_⟩
  · have := congrArg List.length (outs_wait l)
    rw [List.length_map, List.length_map] at this
    rw [this]; exact o.ln
  · obtain ⟨h1, h2⟩ := o.put hp k b hb
    exact ⟨h1, fun hk => by rw [h2]; exact decide_eq_true hk⟩
theorem outs_nopeer {l : LkS} (hp : l.peer = 0) : l.outs.1.wait = l.wait ∧ ∀ f, f ∈ l.outs.2 → f.f2 = 0 := by
  refine ⟨?_, fun f hf => ?_⟩
  · show (if l.peer = 0 then l.wait else _) = _
    rw [if_pos hp]
  · obtain ⟨_, _, _, h | ⟨h, _⟩⟩ := outs_mem hf
    · exact h.1
    · exact absurd hp h
theorem OutI.outs_le {l : LkS} {T : Int} {n m h : Nat} (o : OutI l T n m h) (ha : 0 ≤ l.acked) {f : FrT} (hf : f ∈ l.outs.2) : f.f2 ≤ l.acked + (min 8 n : Nat) := by
  obtain ⟨_, _, _, h | ⟨_, j, b, hj, hb, _, h, _⟩⟩ := outs_mem hf
  · omega
  · have hlt := (List.getElem?_eq_some_iff.1 hb).1
    rw [o.ln] at hlt
    omega
theorem OutI.send {l : LkS} {T : Int} {n m h : Nat} (o : OutI l T n m h) (s : ByteArray) : ∃ n', OutI (l.send s).1 T n' m h := by
  unfold LkS.send
  split
  · exact ⟨n, o⟩
  · split
    · exact ⟨n, o⟩
    · have hmn := o.mn
      refine ⟨n + 1, by show (l.wait ++ [_]).length = _; rw [List.length_append, o.ln]; rfl, o.lt, o.hm, o.m8, by omega, fun k b hb => ?_⟩
      have hb : (l.wait ++ [(⟨s, false, true⟩ : BdT)])[k]? = some b := hb
      rw [List.getElem?_append, o.ln] at hb
      split at hb
      · exact o.f k b hb
      · rename_i hk
        have hlt := (List.getElem?_eq_some_iff.1 hb).1
        rw [List.length_singleton] at hlt
        rw [show k - n = 0 by omega] at hb
        injection hb with hb
        subst hb
        exact ⟨(decide_eq_false (by omega)).symm, fun _ => rfl⟩
theorem OutI.drop {l l' : LkS} {T : Int} {n m h c : Nat} (o : OutI l T n m h) (hc : c ≤ h) (h1 : l'.wait = l.wait.drop c) (h2 : l'.acked = l.acked + c) : OutI l' T (n - c) (m - c) (h - c) := by
  have hh := o.hm
  have hm8 := o.m8
  have hmn := o.mn
  refine ⟨by rw [h1, List.length_drop, o.ln], by rw [h2]; have := o.lt; omega, by omega, by omega, by omega, fun k b hb => ?_⟩
  rw [h1, List.getElem?_drop] at hb
  obtain ⟨g1, g2⟩ := o.f _ b hb
  refine ⟨?_, fun hk => g2 (by omega)⟩
  rw [g1]
  by_cases e : c + k < m
  · rw [decide_eq_true e, decide_eq_true (by omega)]
  · rw [decide_eq_false e, decide_eq_false (by omega)]
theorem OutI.ackd {l : LkS} {T : Int} {n m h : Nat} (o : OutI l T n m h) {a : Int} (ha : a ≤ T) : ∃ c, c ≤ h ∧ OutI (l.ackd a) T (n - c) (m - c) (h - c) ∧ (l.ackd a).acked = l.acked + (c : Int) := by
  unfold LkS.ackd
  split
  · rename_i hc
    have := o.lt
    exact ⟨(a - l.acked).toNat, by omega, o.drop (by omega) rfl (by show a = _; omega), by show a = _; omega⟩
  · exact ⟨0, Nat.zero_le _, o, by omega⟩
theorem meet_wa {l : LkS} {e : Int} (h : ¬ (l.peer < e ∧ l.peer ≠ 0)) : (l.meet e).wait = l.wait ∧ (l.meet e).acked = l.acked ∧ (l.meet e).ticks = l.ticks ∧ (l.meet e).owes = l.owes ∧ (l.meet e).epoch = l.epoch := by
  unfold LkS.meet
  split
  · rename_i h1
    rw [if_neg (fun h2 => h ⟨h1, h2⟩)]
    exact ⟨rfl, rfl, rfl, rfl, rfl⟩
  · exact ⟨rfl, rfl, rfl, rfl, rfl⟩
theorem take1_wa (l : LkS) (f : FrT) : (l.take1 f).wait = l.wait ∧ (l.take1 f).acked = l.acked ∧ (l.take1 f).peer = l.peer ∧ (l.take1 f).epoch = l.epoch ∧ (l.take1 f).ticks = l.ticks := by
  unfold LkS.take1
  split <;> exact ⟨rfl, rfl, rfl, rfl, rfl⟩
theorem ackd_wa (l : LkS) (a : Int) : (l.ackd a).taken = l.taken ∧ (l.ackd a).peer = l.peer ∧ (l.ackd a).epoch = l.epoch ∧ (l.ackd a).owes = l.owes := by
  unfold LkS.ackd
  split <;> exact ⟨rfl, rfl, rfl, rfl⟩
/-- A frame comes: what waits; what was taken. -/
theorem OutI.take {e eo : Int} {l lo : LkS} {sent sento told : List ByteArray} (hE : EndI e eo l lo sent sento told) (he : 0 < eo) {f : FrT} (hf : FrI e eo lo sento f) {n m h : Nat} (o : OutI l lo.taken n m h) :
    (∃ c, c ≤ h ∧ OutI (l.take f).1 lo.taken (n - c) (m - c) (h - c) ∧ (l.take f).1.acked = l.acked + (c : Int)) ∧ ((l.take f).1.taken = l.taken ∨ (l.take f).1.taken = l.taken + 1 ∧ f.f2 = l.taken + 1) := by
  obtain ⟨hm, hm1, hm2, hm3⟩ := hE.meet he
  obtain ⟨w1, w2, w3, w4, w5⟩ := meet_wa hm3
  unfold LkS.take
  rw [hf.e0]
  split
  · exact ⟨⟨0, Nat.zero_le _, o, by show l.acked = l.acked + ((0 : Nat) : Int); omega⟩, .inl rfl⟩
  · split
    · exact ⟨⟨0, Nat.zero_le _, o.congr w1 w2, by show (l.meet eo).acked = _; omega⟩, .inl hm1⟩
    · have o2 : OutI (l.meet eo) lo.taken n m h := o.congr w1 w2
      obtain ⟨c, hc, o3, ha⟩ := o2.ackd hf.a1
      obtain ⟨k1, k2, k3, k4⟩ := ackd_wa (l.meet eo) f.f3
      generalize (l.meet eo).ackd f.f3 = l2 at o3 ha k1 k2 k3 k4 ⊢
      obtain ⟨t1, t2, t3, t4, t5⟩ := take1_wa l2 f
      refine ⟨⟨c, hc, o3.congr t1 t2, by show (l2.take1 f).acked = _; rw [t2, ha, w2]⟩, ?_⟩
      show (l2.take1 f).taken = _ ∨ (l2.take1 f).taken = _ ∧ _
      unfold LkS.take1
      split
      · rename_i hh
        exact .inr ⟨by show l2.taken + 1 = _; omega, by omega⟩
      · exact .inl (by show l2.taken = _; omega)
structure InvQ (x : PaM) : Prop where
  o : ∀ w, w < 2 → ∃ n m h, OutI (x.l w) (x.l (1 - w)).taken n m h ∧ ∀ f, f ∈ x.way (1 - w) → f.f2 ≤ (x.l w).acked + (m : Int)
  z : ∀ w, w < 2 → ∀ s, s ∈ x.sent w → s.size ≤ 100000
theorem InvQ.start : InvQ PaM.start :=
  ⟨fun w hw => ⟨0, 0, 0, ⟨rfl, rfl, Nat.le_refl _, Nat.zero_le _, Nat.le_refl _, fun k b hb => by cases hb⟩, fun f hf => by cases hf⟩, fun w hw s hs => by cases hs⟩

end Go.Proofs.Ytdpogggajdfedaa.P
