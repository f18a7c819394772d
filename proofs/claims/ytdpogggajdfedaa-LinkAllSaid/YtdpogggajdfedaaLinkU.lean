import Derived.Test.YtdpogggajdfedaaLinkT
import Derived.Outline
import Derived.Laws.BitsAllLaws
import Derived.WalkSpells
import Derived.StillTailTactics
namespace Go.Proofs.Ytdpogggajdfedaa.P
open Go.RowKit Go.Proofs.YtdpogggajdfedaaW.PrintWords Go.Proofs.YtdpogggajdfedaaW.PrintLast Go.Proofs.YtdpogggajdfedaaW.PrintMore
attribute [local go_sem] max2_int min2_int max_two min_two max_three min_three max_four min_four
set_option linter.unusedVariables false
set_option linter.unusedSimpArgs false
theorem OutI.ackd_all {l : LkS} {T : Int} {n m h : Nat} (o : OutI l T n m h) : (l.ackd T).wait = l.wait.drop h ∧ (l.ackd T).acked = l.acked + (h : Int) ∧ (l.ackd T).ticks = if 0 < h then 0 else l.ticks := by
  have hT := o.lt
  have hm := o.hm
  have hmn := o.mn
  have hn := o.ln
  unfold LkS.ackd
  by_cases h0 : h = 0
  · rw [if_neg (by omega), h0, if_neg (by decide)]
    exact ⟨rfl, by omega, rfl⟩
  · have hlt : h - 1 < l.wait.length := by omega
    have hf := (o.f (h - 1) _ (List.getElem?_eq_getElem hlt)).1
    rw [decide_eq_true (by omega)] at hf
    have hc : 1 ≤ T - l.acked ∧ T - l.acked ≤ l.wait.length ∧ (l.wait.getD (T - l.acked - 1).toNat z65).f1 = true := by
      refine ⟨by omega, by omega, ?_⟩
      rw [show (T - l.acked - 1).toNat = h - 1 by omega, List.getD_eq_getElem?_getD, List.getElem?_eq_getElem hlt]
      exact hf
    rw [if_pos hc, if_pos (by omega)]
    exact ⟨by show l.wait.drop _ = _; rw [show (T - l.acked).toNat = h by omega], by show T = _; omega, rfl⟩
/-- So, and what is out is not due. -/
structure OutS (l : LkS) (T : Int) (n m h : Nat) : Prop where
  o : OutI l T n m h
  s : ∀ (k : Nat) (b : BdT), l.wait[k]? = some b → b.f2 = decide (m ≤ k)
/-- Of two ends: what each knows of the other. -/
structure Know (e eo : Int) (l : LkS) : Prop where
  ep : l.epoch = e
  pe : l.peer = eo
  a0 : 0 ≤ l.acked
  k0 : 0 ≤ l.ticks
  k1 : l.ticks < 3
theorem Know.frs {e eo : Int} {l : LkS} (h : Know e eo l) {f : FrT} (hf : f ∈ l.tick.outs.2) : f.f0 = e ∧ f.f1 = eo ∧ f.f3 = l.taken := by
  obtain ⟨t1, t2, t3, t4⟩ := tick_rest l
  obtain ⟨h0, h1, h3, _⟩ := outs_mem hf
  exact ⟨by rw [h0, t1, h.ep], by rw [h1, t2, h.pe], by rw [h3, t4]⟩
theorem min8 (n : Nat) : min 8 n ≤ 8 ∧ min 8 n ≤ n ∧ (min 8 n = 8 ∨ min 8 n = n) := by omega
/-- A round, one way. -/
theorem dir_round {e eo : Int} {l r : LkS} {n m h : Nat} (hl : Know e eo l) (hr : Know eo e r) (he : e ≠ 0) (heo : eo ≠ 0) (RL : ∀ f, f ∈ l.tick.outs.2 → RightF f) (RR : ∀ f, f ∈ r.tick.outs.2 → RightF f) (o : OutI l r.taken n m h) :
    ∃ h' c : Nat, c = (if r.tick.outs.2 = [] then 0 else h) ∧ OutS (tk l.tick.outs.1 r.tick.outs.2) (tk r.tick.outs.1 l.tick.outs.2).taken (n - c) (min 8 n - c) (h' - c) ∧ (tk l.tick.outs.1 r.tick.outs.2).ticks = (if 0 < c then 0 else l.tick.outs.1.ticks) ∧
      h ≤ h' ∧ h' ≤ min 8 n ∧ (∀ j, h ≤ j → j < h' → ∃ b, l.tick.wait[j]? = some b ∧ b.f2 = true) ∧ (∀ b, h' < 8 → l.tick.wait[h']? = some b → b.f2 = false) ∧
      ((tk r.tick.outs.1 l.tick.outs.2).owes = true ↔ ∃ j b, j < 8 ∧ l.tick.wait[j]? = some b ∧ b.f2 = true) := by
  have o1 := o.tick
  obtain ⟨t1, t2, t3, t4⟩ := tick_rest l
  obtain ⟨s1, s2, s3, s4⟩ := tick_rest r
  have hp1 : l.tick.peer ≠ 0 := by rw [t2, hl.pe]; exact heo
  have hrp1 : r.tick.peer ≠ 0 := by rw [s2, hr.pe]; exact he
  obtain ⟨h', g1, g2, g3, g4, g5, g6⟩ := outs_tkn o1 (by rw [t3]; exact hl.a0) hp1
  have o2 := o1.outs hp1
  have kl := tk_is (e := e) (eo := eo) (a := r.taken) r.tick.outs.2 l.tick.outs.1 (by show l.tick.peer = _; rw [t2, hl.pe]) (by show l.tick.epoch = _; rw [t1, hl.ep]) (fun f hf => ⟨RR f hf, (hr.frs hf).1, (hr.frs hf).2.1, (hr.frs hf).2.2⟩)
  have kr := tk_is (e := eo) (eo := e) (a := l.taken) l.tick.outs.2 r.tick.outs.1 (by show r.tick.peer = _; rw [s2, hr.pe]) (by show r.tick.epoch = _; rw [s1, hr.ep]) (fun f hf => ⟨RL f hf, (hl.frs hf).1, (hl.frs hf).2.1, (hl.frs hf).2.2⟩)
  have krt : (tk r.tick.outs.1 l.tick.outs.2).taken = l.acked + (h' : Int) := by
    rw [kr]
    show tkn r.tick.taken l.tick.outs.2 = _
    rw [s4, g3, t3]
  have kro : (tk r.tick.outs.1 l.tick.outs.2).owes = l.tick.outs.2.any (fun f => decide (f.f2 ≠ 0)) := by
    have h1 := congrArg LkS.owes kr
    have h2 : r.tick.outs.1.owes = false := rfl
    rw [h1]
    show (r.tick.outs.1.owes || l.tick.outs.2.any (fun f => decide (f.f2 ≠ 0))) = _
    rw [h2, Bool.false_or]
  have hc : ∀ c, c = (if r.tick.outs.2 = [] then 0 else h) → c ≤ h ∧ (tk l.tick.outs.1 r.tick.outs.2).wait = l.tick.outs.1.wait.drop c ∧ (tk l.tick.outs.1 r.tick.outs.2).acked = l.acked + (c : Int) ∧ (tk l.tick.outs.1 r.tick.outs.2).ticks = (if 0 < c then 0 else l.tick.outs.1.ticks) := by
    intro c hc
    rw [kl]
    by_cases hF : r.tick.outs.2 = []
    · rw [if_pos hF] at hc
      rw [if_pos hF, hc, if_neg (by decide)]
      exact ⟨Nat.zero_le _, rfl, by show l.tick.acked = _; rw [t3]; omega, rfl⟩
    · rw [if_neg hF] at hc
      rw [if_neg hF, hc]
      obtain ⟨a1, a2, a3⟩ := o2.ackd_all
      exact ⟨Nat.le_refl _, a1, by show (l.tick.outs.1.ackd r.taken).acked = _; rw [a2]; show l.tick.acked + _ = _; rw [t3], a3⟩
  obtain ⟨c, hce⟩ : ∃ c, c = (if r.tick.outs.2 = [] then 0 else h) := ⟨_, rfl⟩
  obtain ⟨c1, c2, c3, c4⟩ := hc c hce
  have HCE := Aside0.mk hce
  clear hce hc
  have hh := o.hm
  have hm8 := o.m8
  have hmn := o.mn
  have hput := o1.put hp1
  have hln := o2.ln
  have hlt := o.lt
  obtain ⟨q1, q2, q3⟩ := min8 n
  clear t1 t2 t3 t4 s1 s2 s3 s4
  generalize min 8 n = q at *
  refine ⟨h', c, HCE.out, ⟨⟨by rw [c2, List.length_drop, hln], by rw [c3, krt]; omega, by omega, by omega, by omega, fun k b hb => ?_⟩, fun k b hb => ?_⟩, c4, g1, g2, g4, g5, ?_⟩
  · rw [c2, List.getElem?_drop] at hb
    obtain ⟨p1, p2⟩ := hput _ b hb
    refine ⟨?_, fun hk => by rw [p2]; exact decide_eq_true (by omega)⟩
    rw [p1, decide_eq_decide]
    omega
  · rw [c2, List.getElem?_drop] at hb
    obtain ⟨p1, p2⟩ := hput _ b hb
    rw [p2, decide_eq_decide]
    omega
  · rw [kro]; exact g6
theorem owes_speaks {l : LkS} (h : l.owes = true) : l.outs.2 ≠ [] := by
  show (if l.due = [] ∧ l.owes = true then _ else l.due) ≠ []
  split
  · simp
  · rename_i hc
    exact fun e => hc ⟨e, h⟩
theorem tick_owes {l : LkS} (h : l.owes = true ∨ l.peer = 0) : l.tick.owes = true := by
  have : (l.owes || decide (l.peer = 0)) = true := by
    rcases h with h | h
    · rw [h]; rfl
    · rw [decide_eq_true h]; simp
  unfold LkS.tick
  split
  · exact this
  · split <;> exact this
def Rk (l r : LkS) (N : Nat) : Prop := ∃ n m h, OutS l r.taken n m h ∧ n ≤ 32 ∧ rkS n m h l.ticks.toNat r.owes ≤ N
theorem Rk.first {e eo : Int} {l r : LkS} {n m h : Nat} (hl : Know e eo l) (hr : Know eo e r) (he : e ≠ 0) (heo : eo ≠ 0) (RL : ∀ f, f ∈ l.tick.outs.2 → RightF f) (RR : ∀ f, f ∈ r.tick.outs.2 → RightF f) (o : OutI l r.taken n m h) (hn : n ≤ 32) :
    Rk (tk l.tick.outs.1 r.tick.outs.2) (tk r.tick.outs.1 l.tick.outs.2) 71 := by
  obtain ⟨h', c, _, hS, _⟩ := dir_round hl hr he heo RL RR o
  exact ⟨_, _, _, hS, by omega, rk_le _ _ _ _ _ (by omega)⟩
theorem tick_dues {l : LkS} {T : Int} {n m h : Nat} (o : OutS l T n m h) (hk0 : 0 ≤ l.ticks) (j : Nat) (b : BdT) (hb : l.tick.wait[j]? = some b) : b.f2 = decide ((0 < m ∧ 2 ≤ l.ticks.toNat) ∨ m ≤ j) := by
  have hi := o.o.isOut
  unfold LkS.tick at hb
  by_cases h0 : 0 < m
  · rw [hi, decide_eq_true h0, if_neg (by decide)] at hb
    by_cases h1 : l.ticks + 1 < 3
    · rw [if_pos h1] at hb
      rw [o.s j b hb, decide_eq_decide]
      omega
    · rw [if_neg h1] at hb
      have hb : (l.wait.map fun x : BdT => (⟨x.f0, x.f1, true⟩ : BdT))[j]? = some b := hb
      rw [List.getElem?_map, Option.map_eq_some_iff] at hb
      obtain ⟨b0, _, rfl⟩ := hb
      exact (decide_eq_true (.inl ⟨h0, by omega⟩)).symm
  · rw [hi, decide_eq_false h0, if_pos rfl] at hb
    rw [o.s j b hb, decide_eq_decide]
    omega
theorem tick_ticks {l : LkS} {T : Int} {n m h : Nat} (o : OutI l T n m h) (hk0 : 0 ≤ l.ticks) (hk1 : l.ticks < 3) (hp : l.peer ≠ 0) : l.tick.outs.1.ticks.toNat = if (0 < m ∧ 2 ≤ l.ticks.toNat) ∨ m = 0 then 0 else l.ticks.toNat + 1 := by
  have hi := o.isOut
  have hi1 := o.tick.isOut
  obtain ⟨t1, t2, t3, t4⟩ := tick_rest l
  show (if l.tick.peer ≠ 0 ∧ l.tick.isOut = false then (0 : Int) else l.tick.ticks).toNat = _
  rw [hi1, t2]
  by_cases h0 : 0 < m
  · rw [if_neg (by rw [decide_eq_true h0]; simp)]
    unfold LkS.tick
    rw [hi, decide_eq_true h0, if_neg (by decide)]
    by_cases h1 : l.ticks + 1 < 3
    · rw [if_pos h1, if_neg (by omega)]
      show (l.ticks + 1).toNat = _
      omega
    · rw [if_neg h1, if_pos (by omega)]
      rfl
  · rw [if_pos ⟨hp, decide_eq_false h0⟩, if_pos (.inr (by omega))]
    rfl
theorem hp_is {n m h h' t : Nat} (hh : h ≤ m) (hm : m ≤ 8) (hmn : m ≤ n) (g1 : h ≤ h') (g2 : h' ≤ min 8 n) (ga : ∀ j, j < n → h ≤ j → j < h' → (0 < m ∧ 2 ≤ t) ∨ m ≤ j) (gb : h' < 8 → h' < n → ¬ ((0 < m ∧ 2 ≤ t) ∨ m ≤ h')) : h' = if (0 < m ∧ 2 ≤ t) ∨ h = m then min 8 n else h := by
  obtain ⟨q1, q2, q3⟩ := min8 n
  generalize min 8 n = q at *
  split
  · rename_i hx
    by_cases hlt : h' < q
    · exact absurd (by omega) (gb (by omega) (by omega))
    · omega
  · rename_i hx
    by_cases hlt : h < h'
    · have := ga h (by omega) (Nat.le_refl _) hlt
      omega
    · omega
theorem em_is {n m t : Nat} {E : Prop} (hm : m ≤ 8) (hmn : m ≤ n) (h1 : E → ∃ j, j < 8 ∧ j < n ∧ ((0 < m ∧ 2 ≤ t) ∨ m ≤ j)) (h2 : ∀ j, j < 8 → j < n → ((0 < m ∧ 2 ≤ t) ∨ m ≤ j) → E) : E ↔ if 0 < m ∧ 2 ≤ t then 0 < n else m < min 8 n := by
  obtain ⟨q1, q2, q3⟩ := min8 n
  generalize min 8 n = q at *
  constructor
  · intro hE
    obtain ⟨j, a, b, c⟩ := h1 hE
    split <;> omega
  · intro hx
    split at hx
    · rename_i hr
      exact h2 0 (by omega) hx (.inl hr)
    · exact h2 m (by omega) (by omega) (.inr (Nat.le_refl _))
theorem Rk.next {e eo : Int} {l r : LkS} {N : Nat} (hl : Know e eo l) (hr : Know eo e r) (he : e ≠ 0) (heo : eo ≠ 0) (RL : ∀ f, f ∈ l.tick.outs.2 → RightF f) (RR : ∀ f, f ∈ r.tick.outs.2 → RightF f) (H : Rk l r (N + 1)) :
    Rk (tk l.tick.outs.1 r.tick.outs.2) (tk r.tick.outs.1 l.tick.outs.2) N := by
  obtain ⟨n, m, h, o, hn, hk⟩ := H
  obtain ⟨h', c, hc, hS, hT, g1, g2, g4, g5, g6⟩ := dir_round hl hr he heo RL RR o.o
  have HC := Aside0.mk hc
  have HT := Aside0.mk hT
  clear hc hT
  have hd := tick_dues o hl.k0
  have htt := tick_ticks o.o hl.k0 hl.k1 (by rw [hl.pe]; exact heo)
  obtain ⟨t, ht⟩ : ∃ t, l.ticks.toNat = t := ⟨_, rfl⟩
  rw [ht] at hd htt hk
  have ht2 : t ≤ 2 := by have := hl.k0; have := hl.k1; omega
  have hh := o.o.hm
  have hm8 := o.o.m8
  have hmn := o.o.mn
  have hlen : l.tick.wait.length = n := o.o.tick.ln
  have hro : r.owes = true → decide (r.tick.outs.2 ≠ []) = true := fun h => decide_eq_true (owes_speaks (tick_owes (.inl h)))
  have hdue : ∀ j b, l.tick.wait[j]? = some b → b.f2 = true → j < n ∧ ((0 < m ∧ 2 ≤ t) ∨ m ≤ j) := fun j b hb hb2 => by
    have := (List.getElem?_eq_some_iff.1 hb).1
    rw [hd j b hb] at hb2
    exact ⟨by rw [← hlen]; exact this, of_decide_eq_true hb2⟩
  have hdue2 : ∀ j, j < n → ∃ b, l.tick.wait[j]? = some b ∧ (((0 < m ∧ 2 ≤ t) ∨ m ≤ j) → b.f2 = true) := fun j hj => by
    rw [← hlen] at hj
    exact ⟨_, List.getElem?_eq_getElem hj, fun hx => by rw [hd j _ (List.getElem?_eq_getElem hj)]; exact decide_eq_true hx⟩
  have e1 := hp_is (t := t) hh hm8 hmn g1 g2 (fun j _ a b => by obtain ⟨x, hx, hx2⟩ := g4 j a b; exact (hdue j x hx hx2).2) (fun a b c => by
    obtain ⟨x, hx, hx2⟩ := hdue2 h' b
    have := g5 x a hx
    rw [hx2 c] at this
    cases this)
  have e2 := em_is (t := t) (E := (tk r.tick.outs.1 l.tick.outs.2).owes = true) hm8 hmn (fun hE => by
    obtain ⟨j, b, hj, hb, hb2⟩ := g6.1 hE
    exact ⟨j, hj, hdue j b hb hb2⟩) (fun j a b c => by
    obtain ⟨x, hx, hx2⟩ := hdue2 j b
    exact g6.2 ⟨j, x, a, hx, hx2 c⟩)
  have HTT := Aside0.mk htt
  clear htt
  have e3 : c = if decide (r.tick.outs.2 ≠ []) = true then h else 0 := by
    rw [HC.out]
    by_cases hF : r.tick.outs.2 = []
    · rw [if_pos hF, if_neg (by simp [hF])]
    · rw [if_neg hF, if_pos (by simp [hF])]
  have key := rk_step n m h t h' c r.owes (decide (r.tick.outs.2 ≠ [])) (tk r.tick.outs.1 l.tick.outs.2).owes hn hm8 hmn hh ht2 hro e1 e2 e3
  have htk : (tk l.tick.outs.1 r.tick.outs.2).ticks.toNat = if 0 < c ∨ (0 < m ∧ 2 ≤ t) ∨ m = 0 then 0 else t + 1 := by
    rw [HT.out]
    by_cases hc0 : 0 < c
    · rw [if_pos hc0, if_pos (.inl hc0)]; rfl
    · rw [if_neg hc0, HTT.out]
      by_cases hx : (0 < m ∧ 2 ≤ t) ∨ m = 0
      · rw [if_pos hx, if_pos (.inr hx)]
      · rw [if_neg hx, if_neg (by omega)]
  refine ⟨_, _, _, hS, by omega, ?_⟩
  rw [htk]
  omega
theorem Rk.done {l r : LkS} (hk0 : 0 ≤ l.ticks) (hk1 : l.ticks < 3) (H : Rk l r 0) : l.wait = [] := by
  obtain ⟨n, m, h, o, hn, hk⟩ := H
  have hh := o.o.hm
  have hmn := o.o.mn
  have := rk_zero (h := h) (n := n) (m := m) (t := l.ticks.toNat) (o := r.owes) (by omega) (by omega) (by omega)
  exact List.eq_nil_of_length_eq_zero (by rw [o.o.ln, this])

end Go.Proofs.Ytdpogggajdfedaa.P
