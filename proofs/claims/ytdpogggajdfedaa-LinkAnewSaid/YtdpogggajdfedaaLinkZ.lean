import Derived.Test.YtdpogggajdfedaaLinkY
import Derived.Outline
import Derived.Laws.BitsAllLaws
import Derived.WalkSpells
import Derived.StillTailTactics
namespace Go.Proofs.Ytdpogggajdfedaa.P
open Go.RowKit Go.Proofs.YtdpogggajdfedaaW.PrintWords Go.Proofs.YtdpogggajdfedaaW.PrintLast Go.Proofs.YtdpogggajdfedaaW.PrintMore
attribute [local go_sem] max2_int min2_int max_two min_two max_three min_three max_four min_four
set_option linter.unusedVariables false
set_option linter.unusedSimpArgs false
/-! ### Sizes of the play of an end that begins again -/
structure AnZ (m : Nat) (a : AnM) : Prop where
  way : ∀ i, i < 2 → (a.x.way i).length ≤ 8 * m
  sent : (a.x.sent 0).length ≤ m
  own : a.own.length ≤ m
  told : a.told.length ≤ m
  mine : a.mine.length ≤ m
  first : a.first ≤ m
theorem take_len (l : LkS) (f : FrT) : (l.take f).2.1.length ≤ 1 := by
  unfold LkS.take
  split
  · exact Nat.zero_le _
  · split
    · exact Nat.zero_le _
    · show (if f.f2 = ((l.meet f.f0).ackd f.f3).taken + 1 then [f.f4] else []).length ≤ 1
      split
      · exact Nat.le_refl _
      · exact Nat.zero_le _
namespace AnZ
variable {m : Nat} {a : AnM}
theorem start {x : PaM} (h : InvP m x) : AnZ m (AnM.start x) := ⟨h.wl, h.sl 0 (by decide), Nat.zero_le _, Nat.zero_le _, Nat.zero_le _, h.sl 0 (by decide)⟩
theorem more (h : AnZ m a) : AnZ (m + 1) a := ⟨fun i hi => by have := h.way i hi; omega, by have := h.sent; omega, by have := h.own; omega, by have := h.told; omega, by have := h.mine; omega, by have := h.first; omega⟩
theorem mono {k : Nat} (h : AnZ m a) (hk : m ≤ k) : AnZ k a := ⟨fun i hi => by have := h.way i hi; omega, by have := h.sent; omega, by have := h.own; omega, by have := h.told; omega, by have := h.mine; omega, by have := h.first; omega⟩
theorem send (h : AnZ m a) (w : Nat) (s : ByteArray) : AnZ (m + 1) (a.sendA w s) := by
  refine ⟨h.more.way, ?_, ?_, h.more.told, h.more.mine, h.more.first⟩
  · show ((if ((a.x.l w).send s).2 = 0 ∧ w = 0 then upd a.x.sent 0 (a.x.sent 0 ++ [s]) else a.x.sent) 0).length ≤ m + 1
    split
    · rw [upd_same, List.length_append, List.length_singleton]
      have := h.sent
      omega
    · exact h.more.sent
  · show (if ((a.x.l w).send s).2 = 0 ∧ w = 1 then a.own ++ [s] else a.own).length ≤ m + 1
    split
    · rw [List.length_append, List.length_singleton]
      have := h.own
      omega
    · exact h.more.own
theorem out (h : AnZ m a) (w : Nat) : AnZ (m + 1) (a.outA w) := by
  refine ⟨fun i hi => ?_, h.more.sent, h.more.own, h.more.told, h.more.mine, h.more.first⟩
  rw [AnM.outA_way]
  have h1 := h.way i hi
  by_cases e : i = 1 - w
  · subst e
    rw [upd_same, List.length_append]
    have := (a.x.l w).outs_len
    omega
  · rw [upd_ne _ _ e]
    omega
theorem tick (h : AnZ m a) (w : Nat) : AnZ (m + 1) (a.tickA w) := ⟨h.more.way, h.more.sent, h.more.own, h.more.told, h.more.mine, h.more.first⟩
theorem come (h : AnZ m a) (w i : Nat) : AnZ (m + 1) (a.comeA w i) := by
  have hl := take_len (a.x.l w) (a.x.frame w i)
  refine ⟨h.more.way, h.more.sent, h.more.own, ?_, ?_, ?_⟩
  · rw [AnM.comeA_told]
    have := h.told
    split
    · rw [List.length_append]; omega
    · omega
  · rw [AnM.comeA_mine]
    have := h.mine
    split
    · rw [List.length_append]; omega
    · omega
  · show (if ((a.x.l w).take (a.x.frame w i)).2.2 = true then (a.x.sent 0).length else a.first) ≤ m + 1
    have h1 := h.sent
    have h2 := h.first
    split <;> omega
end AnZ
theorem AnC.ep {a : AnM} (h : AnC a) {w i : Nat} (hw : w < 2) (hi : i < (a.x.way w).length) : -9223372036854775808 ≤ (a.x.frame w i).f0 := by
  have hm := a.x.frame_mem hi
  rcases two01 hw with rfl | rfl
  · rcases h.f0 _ hm with e | e
    · omega
    · have := e.e0; omega
  · have := h.f1 _ hm
    omega
theorem AnI.send {a : AnM} (h : AnI a) {w : Nat} (hw : w < 2) (s : ByteArray) : AnI (a.sendA w s) := by
  rcases two01 hw with rfl | rfl
  · exact h.send0 s
  · exact h.send1 s
theorem AnI.out {a : AnM} (h : AnI a) {w : Nat} (hw : w < 2) : AnI (a.outA w) := by
  rcases two01 hw with rfl | rfl
  · exact h.out0
  · exact h.out1
theorem AnI.tick {a : AnM} (h : AnI a) {w : Nat} (hw : w < 2) : AnI (a.tickA w) := by
  rcases two01 hw with rfl | rfl
  · exact h.tick0
  · exact h.tick1
/-- Deeds, spelt out. -/
theorem sendA_no {a : AnM} {w : Nat} {s : ByteArray} (h : ((a.x.l w).send s).2 ≠ 0) : a.sendA w s = { a with x := { a.x with l := upd a.x.l w ((a.x.l w).send s).1 } } := by
  unfold AnM.sendA
  rw [if_neg (fun e => h e.1), if_neg (fun e => h e.1)]
theorem sendA_0 {a : AnM} {s : ByteArray} (h : ((a.x.l 0).send s).2 = 0) : a.sendA 0 s = { a with x := { a.x with l := upd a.x.l 0 ((a.x.l 0).send s).1, sent := upd a.x.sent 0 (a.x.sent 0 ++ [s]) } } := by
  unfold AnM.sendA
  rw [if_pos ⟨h, rfl⟩, if_neg (fun e => by have := e.2; omega)]
theorem sendA_1 {a : AnM} {s : ByteArray} (h : ((a.x.l 1).send s).2 = 0) : a.sendA 1 s = { a with x := { a.x with l := upd a.x.l 1 ((a.x.l 1).send s).1 }, own := a.own ++ [s] } := by
  unfold AnM.sendA
  rw [if_neg (fun e => by have := e.2; omega), if_pos ⟨h, rfl⟩]
theorem comeA_1 {a : AnM} {i : Nat} {l' : LkS} {bs : List ByteArray} (h : (a.x.l 1).take (a.x.frame 1 i) = (l', bs, false)) : a.comeA 1 i = { a with x := { a.x with l := upd a.x.l 1 l' }, told := a.told ++ bs } := by
  unfold AnM.comeA
  rw [h]
  rfl
theorem comeA_0 {a : AnM} {i : Nat} {l' : LkS} {bs : List ByteArray} {rs : Bool} (h : (a.x.l 0).take (a.x.frame 0 i) = (l', bs, rs)) : a.comeA 0 i = { a with x := { a.x with l := upd a.x.l 0 l' }, first := if rs = true then (a.x.sent 0).length else a.first, resets := if rs = true then a.resets + 1 else a.resets, mine := if (a.x.frame 0 i).f0 = 9 then a.mine ++ bs else a.mine } := by
  unfold AnM.comeA
  rw [h, if_neg (show ¬ (0 : Nat) = 1 by decide)]
  by_cases h9 : (a.x.frame 0 i).f0 = 9
  · rw [if_pos ⟨by decide, h9⟩, if_pos h9]
  · rw [if_neg (fun e => h9 e.2), if_neg h9]
theorem InvZ.start : InvZ PaM.start := fun w hw _ => by
  rcases two01 hw with rfl | rfl <;> rfl

/-! ### What the walk's end wants -/
theorem rdOf_drop {xs ys : List ByteArray} {d : Nat} (h : xs <+: ys.drop d) (j : Nat) (hj : j < xs.length) : rdOf ByteArray.empty xs (j : Int) = rdOf ByteArray.empty ys ((d : Int) + (j : Int)) := by
  obtain ⟨r, hr⟩ := h
  have h1 : ys.drop d = xs ++ r := hr.symm
  have h2 : ys[d + j]? = xs[j]? := by rw [← List.getElem?_drop, h1, List.getElem?_append_left hj]
  unfold rdOf
  rw [show ((j : Int)).toNat = j from rfl, show ((d : Int) + (j : Int)).toNat = d + j by omega, List.getD_eq_getElem?_getD, List.getD_eq_getElem?_getD, h2]
structure EndF (B : PB) (a : AnM) (As : Option Addr) (cs nt no nm n0 fi rz : Nat) : Prop where
  nt_ : a.told.length = nt
  no_ : a.own.length = no
  nm_ : a.mine.length = nm
  n0_ : (a.x.sent 0).length = n0
  sv : B.sv 0 = .slice As n0 cs
  pf : 1 ≤ rz → fi ≤ n0 ∧ a.told <+: (a.x.sent 0).drop fi
  mo : a.mine <+: a.own
theorem EndF.gap {B : PB} {a : AnM} {As : Option Addr} {cs nt no nm n0 fi rz : Nat} (E : EndF B a As cs nt no nm n0 fi rz) (h : 1 ≤ rz) : ¬ (n0 : Int) - (fi : Int) < (nt : Int) := by
  obtain ⟨h1, h2⟩ := E.pf h
  have h3 := h2.length_le
  rw [E.nt_, List.length_drop, E.n0_] at h3
  omega
theorem EndF.le {B : PB} {a : AnM} {As : Option Addr} {cs nt no nm n0 fi rz : Nat} (E : EndF B a As cs nt no nm n0 fi rz) : nm ≤ no := by
  have h := E.mo.length_le
  rw [E.nm_, E.no_] at h
  exact h
theorem end_facts {w W : World} {B : PB} {a : AnM} {Vt Vo Vm : Value} {fi rz : Nat} (H : AnIs w W B a Vt Vo Vm) (HI : AnI a) (HZ : AnZ 200 a) (hf : a.first = fi) (hr : a.resets = rz) :
    ∃ At nt ct Ao no co Am nm cm As cs n0, Vt = .slice At nt ct ∧ Vo = .slice Ao no co ∧ Vm = .slice Am nm cm ∧ nt ≤ 200 ∧ no ≤ 200 ∧ nm ≤ 200 ∧ n0 ≤ 200 ∧ EndF B a As cs nt no nm n0 fi rz := by
  obtain ⟨At, ct, et, _, _⟩ := Kd.R_reads H.t
  obtain ⟨Ao, co, eo, _, _⟩ := Kd.R_reads H.o
  obtain ⟨Am, cm, em, _, _⟩ := Kd.R_reads H.m
  obtain ⟨As, cs, es, _, _⟩ := Kd.R_reads (H.P.s 0 (by decide))
  obtain ⟨_, hmo, hpf⟩ := HI.ends
  rw [hf, hr] at hpf
  exact ⟨At, _, ct, Ao, _, co, Am, _, cm, As, cs, _, et, eo, em, by have := HZ.told; omega, by have := HZ.own; omega, by have := HZ.mine; omega, by have := HZ.sent; omega, rfl, rfl, rfl, rfl, es, fun h => hpf h, hmo⟩
theorem EndF.seven {w W : World} {B : PB} {a : AnM} {Vt : Value} {Ao Am As : Option Addr} {co cm cs nt no nm n0 fi rz j : Nat} (E : EndF B a As cs nt no nm n0 fi rz) (H : AnIs w W B a Vt (.slice Ao no co) (.slice Am nm cm)) (hj : j < nm) :
    ∃ ad ad2 st, Am = some ad ∧ Ao = some ad2 ∧ W.cell? (ad.add j) = some (.string st) ∧ W.cell? (ad2.add j) = some (.string st) ∧ (st.toList != st.toList) = false ∧ (j : Int) < (nm : Int) ∧ (j : Int) < (no : Int) ∧ (0 : Int) ≤ (j : Int) ∧ decide ((no : Int) ≤ (j : Int)) = false ∧ decide (no ≤ j) = false ∧ j < no := by
  have hle := E.le
  have h2 : Kd.string.C W Am a.mine.length a.mine := (Kd.R_reads' H.m).2.2
  have h3 : Kd.string.C W Ao a.own.length a.own := (Kd.R_reads' H.o).2.2
  obtain ⟨ad, e0, hs1⟩ := Kd.at_string h2 (j : Int) (by omega) (by rw [E.nm_]; omega)
  obtain ⟨ad2, e2, hs2⟩ := Kd.at_string h3 (j : Int) (by omega) (by rw [E.no_]; omega)
  rw [rdOf_prefix E.mo j (by rw [E.nm_]; exact hj)] at hs1
  rw [show ((j : Int)).toNat = j from rfl] at hs1 hs2
  exact ⟨ad, ad2, _, e0, e2, hs1, hs2, bne_self_eq_false _, by omega, by omega, by omega, decide_eq_false (by omega), decide_eq_false (by omega), by omega⟩
theorem EndF.five {w W : World} {B : PB} {a : AnM} {Vo Vm : Value} {At As : Option Addr} {ct cs nt no nm n0 fi rz j : Nat} (E : EndF B a As cs nt no nm n0 fi rz) (H : AnIs w W B a (.slice At nt ct) Vo Vm) (hz : 1 ≤ rz) (hj : j < nt) (hb : n0 ≤ 200) :
    ∃ ad ad2 st q, At = some ad ∧ As = some ad2 ∧ W.cell? (ad.add j) = some (.string st) ∧ W.cell? (ad2.add q) = some (.string st) ∧ (st.toList != st.toList) = false ∧ (fi : Int) + (j : Int) = (q : Int) ∧ wrap64 (q : Int) = (q : Int) ∧ (j : Int) < (nt : Int) ∧ (q : Int) < (n0 : Int) ∧ (0 : Int) ≤ (q : Int) ∧ (0 : Int) ≤ (j : Int) ∧ q < n0 := by
  obtain ⟨h1, hpf⟩ := E.pf hz
  have h3 := hpf.length_le
  rw [E.nt_, List.length_drop, E.n0_] at h3
  have h2 : Kd.string.C W At a.told.length a.told := (Kd.R_reads' H.t).2.2
  have h4 := H.P.s 0 (by decide)
  rw [E.sv] at h4
  have h5 : Kd.string.C W As (a.x.sent 0).length (a.x.sent 0) := (Kd.R_reads' h4).2.2
  have hfq : (fi : Int) + (j : Int) = ((fi + j : Nat) : Int) := by omega
  obtain ⟨ad, e0, hs1⟩ := Kd.at_string h2 (j : Int) (by omega) (by rw [E.nt_]; omega)
  obtain ⟨ad2, e2, hs2⟩ := Kd.at_string h5 ((fi + j : Nat) : Int) (by omega) (by rw [E.n0_]; omega)
  have heq := rdOf_drop hpf j (by rw [E.nt_]; exact hj)
  rw [hfq] at heq
  rw [heq] at hs1
  rw [show ((j : Int)).toNat = j from rfl] at hs1
  rw [show (((fi + j : Nat) : Int)).toNat = fi + j from rfl] at hs2
  exact ⟨ad, ad2, _, fi + j, e0, e2, hs1, hs2, bne_self_eq_false _, hfq, by unfold wrap64; omega, by omega, by omega, by omega, by omega, by omega⟩

end Go.Proofs.Ytdpogggajdfedaa.P
