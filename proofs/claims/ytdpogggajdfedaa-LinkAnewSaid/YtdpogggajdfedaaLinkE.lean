import Derived.Test.YtdpogggajdfedaaLinkD
import Derived.Outline
import Derived.Laws.BitsAllLaws
import Derived.WalkSpells
import Derived.StillTailTactics
namespace Go.Proofs.Ytdpogggajdfedaa.P
open Go.RowKit Go.Proofs.YtdpogggajdfedaaW.PrintWords Go.Proofs.YtdpogggajdfedaaW.PrintLast Go.Proofs.YtdpogggajdfedaaW.PrintMore
attribute [local go_sem] max2_int min2_int max_two min_two max_three min_three max_four min_four
set_option linter.unusedVariables false
set_option linter.unusedSimpArgs false
theorem fresh_of {v1 : Value} {n0 : Nat} (hat : v1.ownBlock = (Value.slice none 0 0).ownBlock ∨ ∃ b, v1.ownBlock = some b ∧ n0 ≤ b) : ∀ k, v1.ownBlock = some k → n0 ≤ k := by
  intro k hk
  rcases hat with e | ⟨b, e, hb⟩
  · rw [hk] at e; simp [Value.ownBlock] at e
  · rw [hk] at e; injection e with e; omega
theorem kB_KM {W : World} {b : Nat} {ok : Nat → Prop} {x : BdT} {cs : List Value} (h : kB.K W x cs) : kB.M W b ok x cs := by
  rw [k65_open h]
  exact k65_mkM _ _ _ x
theorem kF_KM {W : World} {b : Nat} {ok : Nat → Prop} {x : FrT} {cs : List Value} (h : kF.K W x cs) : kF.M W b ok x cs := by
  rw [k46_open h]
  exact k46_mkM _ _ _ x
theorem LkIs.renew {W W' : World} {b g : Nat} {l : LkS} {V V1 : Value} {xs : List BdT} (h : LkIs W b g l V) (hR : kB.R 65 W' b (fun _ => True) V1 xs) (hg : W.grownBy W' none) (hat : ∀ k, V1.ownBlock = some k → W.heap.size ≤ k) :
    LkIs (W'.setCell ⟨g, 2, none⟩ V1) b g { l with wait := xs } V1 ∧ LkOnly W (W'.setCell ⟨g, 2, none⟩ V1) g V V1 := by
  have h1 : Only W W' (fun _ => False) := ⟨hg.os, hg.tape, hg.output, hg.size, fun i hi hn => hg.block i hi (by simp)⟩
  have hX := h1.blk h.X (fun e => e)
  exact ⟨⟨(blk_set hX 2 V1).trans rfl, R_only rfl hR ((Only.refl W' _).set_ 2 V1) (fun k hk e => Kd.R_ne hR hX (by decide) (by rw [← e, hk])), h.ge⟩, (h1.mono (fun i _ hi => hi.elim)).setS (.inl (.inl rfl)) _, .inr hat⟩
set_option maxHeartbeats 8000000 in
set_option maxRecDepth 100000 in
theorem ack_calls (b g : Nat) (l : LkS) (V : Value) (n : Int) (w : World) (h : LkIs w b g l V) (hl : l.Ok) (hn0 : 0 ≤ n) (hn1 : n ≤ 9007199254740991) :
    Calls Try.prog 31 #[.pointer (some ⟨g, 0, none⟩), .int .i64 n] w fun e w' => e = .returned (.tuple #[]) ∧ ∃ V', LkIs w' b g (l.ackd n) V' ∧ LkOnly w w' g V V' := by
  have H := Aside0.mk h
  have hge := h.ge
  have hglt := h.lt
  obtain ⟨h0, h1, h2, h3, h4, h5, h6⟩ := h.cells
  obtain ⟨A, c, e, hcc, hC⟩ := Kd.R_reads h.R
  subst e
  have HC := Aside0.mk hC
  have ha0 := hl.a0
  have ha1 := hl.a1
  have hw := hl.w
  obtain ⟨T, hT⟩ : ∃ T, l.ackd n = T := ⟨_, rfl⟩
  rw [hT]
  have HT := Aside0.mk hT
  obtain ⟨a, ha⟩ : ∃ a, l.acked = a := ⟨_, rfl⟩
  rw [ha] at h3 ha0 ha1
  have HA := Aside0.mk ha
  obtain ⟨m, hm⟩ : ∃ m, l.wait.length = m := ⟨_, rfl⟩
  have HM := Aside0.mk hm
  clear ha hT hC
  by_cases c1 : n - a < 1
  · have HE : Aside0 (T = l) := ⟨by rw [← HT.out]; unfold LkS.ackd; rw [HA.out]; exact if_neg (fun h => by omega)⟩
    have d1 : decide (n - a < 1) = true := decide_eq_true c1
    rw [hm] at h2 H ⊢
    clear h hl hm
    go_enter Try.func31, Try.ntmps31
    go_wp2
    first | go_end0 | ((try simp only [Exit.inBlock, Exit.then]); refine bodyPost_ret (results_none rfl _ _ _) rfl ?_)
    exact ⟨rfl, _, by rw [HE.out]; exact H.out, LkOnly.refl _ _ _⟩
  · have d1 : decide (n - a < 1) = false := decide_eq_false c1
    by_cases c2 : (m : Int) < n - a
    · have HE : Aside0 (T = l) := ⟨by rw [← HT.out]; unfold LkS.ackd; rw [HA.out, HM.out]; exact if_neg (fun h => by omega)⟩
      have d2 : decide (n - a > (m : Int)) = true := decide_eq_true c2
      rw [hm] at h2 H ⊢
      clear h hl hm
      go_enter Try.func31, Try.ntmps31
      go_wp2
      first | go_end0 | ((try simp only [Exit.inBlock, Exit.then]); refine bodyPost_ret (results_none rfl _ _ _) rfl ?_)
      exact ⟨rfl, _, by rw [HE.out]; exact H.out, LkOnly.refl _ _ _⟩
    · have d2 : decide (n - a > (m : Int)) = false := decide_eq_false c2
      obtain ⟨k, hk⟩ : ∃ k : Nat, n - a = (k : Int) + 1 := ⟨(n - a - 1).toNat, by omega⟩
      have hkm : k < m := by omega
      obtain ⟨gr, cap, e, _, _, _⟩ := Kd.R_form h.R (by omega)
      injection e with e1 e2 e3
      subst e1
      subst e3
      have hat := (rowB_at h.R k (by omega)).2.1
      obtain ⟨y, hy⟩ : ∃ y, (l.wait[k]'(by omega)).f1 = y := ⟨_, rfl⟩
      rw [hy] at hat
      have HY := Aside0.mk (show (l.wait.getD (n - a - 1).toNat z65).f1 = y by rw [← hy, show (n - a - 1).toNat = k by omega, List.getD_eq_getElem?_getD, List.getElem?_eq_getElem (by omega)]; rfl)
      have HK := Aside0.mk hk
      have i0 : (0 : Int) ≤ (k : Int) := by omega
      have i1 : (k : Int) < (m : Int) := by omega
      rw [hm] at h2 H ⊢
      cases y
      · have HE : Aside0 (T = l) := ⟨by rw [← HT.out]; unfold LkS.ackd; rw [HA.out, HY.out]; exact if_neg (fun h => by simp at h)⟩
        rw [hk] at d1 d2
        clear h hl hm hy c1 c2 hcc
        go_enter Try.func31, Try.ntmps31
        go_wp2
        first | go_end0 | ((try simp only [Exit.inBlock, Exit.then]); refine bodyPost_ret (results_none rfl _ _ _) rfl ?_)
        exact ⟨rfl, _, by rw [HE.out]; exact H.out, LkOnly.refl _ _ _⟩
      · have HE : Aside0 (T = { l with wait := l.wait.drop (k + 1), acked := n, ticks := 0 }) := ⟨by
          rw [← HT.out]
          unfold LkS.ackd
          rw [HA.out, HY.out, HM.out, if_pos ⟨by omega, by omega, rfl⟩, show (n - a).toNat = k + 1 by omega]⟩
        obtain ⟨A', hA'⟩ : ∃ A', (if c = k + 1 then some (⟨gr, 0, none⟩ : Addr) else (some (⟨gr, 0, none⟩ : Addr)).map (·.add ((k + 1) * 3))) = A' := ⟨_, rfl⟩
        have hcut : ∀ W : World, (Instr.slice 61 (.slice (some ⟨gr, 0, none⟩) m c) (some (.int .i64 ((k : Int) + 1))) none none).run Try.prog W = .ok (.slice A' (m - (k + 1)) (c - (k + 1))) W := by
          obtain ⟨i, hi, hii⟩ := Option.map_eq_some_iff.1 infoB
          simp only [Prod.mk.injEq] at hii
          have := cut_from (P := Try.prog) 61 65 .i64 Try.underlying61 hi 3 hii.2.1 (some ⟨gr, 0, none⟩) m c ((k : Int) + 1) (by omega) (by omega)
          rw [show ((k : Int) + 1).toNat = k + 1 by omega, hA'] at this
          exact this
        have HCD : Aside0 (kB.C w A' (l.wait.drop (k + 1)).length (l.wait.drop (k + 1))) := ⟨by
          have := Kd.C_drop (m := k + 1) (c := c) HC.out (by rw [HM.out]; omega) hcc
          have e3 : kB.sz = 3 := rfl
          rw [e3, hA'] at this
          exact this⟩
        have hdl : (l.wait.drop (k + 1)).length = m - (k + 1) := by rw [List.length_drop, HM.out]
        rw [hdl] at HCD
        have hw2 : m ≤ 32 := by rw [← HM.out]; exact hw
        have HDL := Aside0.mk hdl
        have f2 := H.out.frozen 2
        have f3 := H.out.frozen 3
        have f6 := H.out.frozen 6
        rw [hk] at d1 d2
        clear h hl hm hy c1 c2 hcc hA' hdl hw
        go_enter Try.func31, Try.ntmps31
        go_wp2_with ((with_reducible refine gate_builtin (b := .append) (xs := #[.const (.slice none 0 0), .tmp 40]) rfl ?_); at_builtin; refine Kd.R_append_rows kB (Rr := kB.K w) (w0 := w) b rfl (.const (.slice none 0 0)) (.tmp 40) 61 65 (.agg #[.string ⟨#[]⟩, .bool false, .bool false]) 24 rfl Try.underlying61 infoB rfl (by decide) (by omega) (.slice none 0 0) ([] : List BdT) (l.wait.drop (k + 1)) A' (m - (k + 1)) (c - (k + 1)) (fun _ => True) (fun _ => False) rfl rfl ?aO ?aR (fun _ _ h => kB_KM h) (fun _ h => h.elim) ?aF ?aB ?aS ?aL ?_)
        case aR => exact HCD.out
        case aB => exact Below.refl _ _
        try (case aF => exact (fun _ _ => trivial))
        case aO => exact Kd.R_nil _ _ _ _ _
        case aS => omega
        case aL => first | (simp only [List.length_nil]; omega) | omega
        intro v1 w1 ho hb hg hat2
        try rw [List.nil_append] at ho
        obtain ⟨Ax, cx, ex⟩ := Kd.R_slice ho
        rw [HDL.out] at ex
        subst ex
        have hG := H.out.renew ho hg (fresh_of hat2)
        have HG := Aside0.mk hG
        have hX3 := H.out.X
        have hX := blk_grown hX3 hg (by simp [Value.ownBlock])
        have hc2 : w1.cell? ⟨g, 2, none⟩ = some (.slice (some ⟨gr, 0, none⟩) m c) := (blk_cell hX 2).trans rfl
        have hc3 : w1.cell? ⟨g, 3, none⟩ = some (.int .i64 l.acked) := (blk_cell hX 3).trans rfl
        have hc6 : w1.cell? ⟨g, 6, none⟩ = some (.int .i64 l.ticks) := (blk_cell hX 6).trans rfl
        have g2 := blk_frozen hX 2
        have g3 := blk_frozen hX 3
        have g6 := blk_frozen hX 6
        clear ho hb hg hat2 hG hX3 hX h0 h1 h2 h3 h4 h5 h6 f2 f3 f6 hat hcut
        go_wp2
        first | go_end0 | ((try simp only [Exit.inBlock, Exit.then]); refine bodyPost_ret (results_none rfl _ _ _) rfl ?_)
        refine ⟨rfl, _, ?_, (HG.out.2.set_ 3 (.int .i64 n)).set_ 6 (.int .i64 0)⟩
        rw [HE.out]
        exact (HG.out.1.set1 3 (.int .i64 n) { l with wait := l.wait.drop (k + 1), acked := n } rfl rfl).set1 6 (.int .i64 0) { l with wait := l.wait.drop (k + 1), acked := n, ticks := 0 } rfl rfl

end Go.Proofs.Ytdpogggajdfedaa.P
