import Derived.Test.YtdpogggajdfedaaLinkB
import Derived.Outline
import Derived.Laws.BitsAllLaws
import Derived.WalkSpells
import Derived.StillTailTactics
namespace Go.Proofs.Ytdpogggajdfedaa.P
open Go.RowKit Go.Proofs.YtdpogggajdfedaaW.PrintWords Go.Proofs.YtdpogggajdfedaaW.PrintLast Go.Proofs.YtdpogggajdfedaaW.PrintMore
attribute [local go_sem] max2_int min2_int max_two min_two max_three min_three max_four min_four
set_option linter.unusedVariables false
set_option linter.unusedSimpArgs false
theorem infoB : (Try.prog.info? 65).map (fun i => (i.zero, i.size, i.bytes)) = some (some (.agg #[.string ⟨#[]⟩, .bool false, .bool false]), 3, 24) := by kernel_rfl
theorem infoF : (Try.prog.info? 46).map (fun i => (i.zero, i.size, i.bytes)) = some (some (.agg #[.int .i64 0, .int .i64 0, .int .i64 0, .int .i64 0, .string ⟨#[]⟩]), 5, 48) := by kernel_rfl
theorem infoS : (Try.prog.info? 9).map (fun i => (i.zero, i.size, i.bytes)) = some (some (.string ⟨#[]⟩), 1, 16) := by kernel_rfl
theorem LkIs.grew {W W' : World} {b g : Nat} {l : LkS} {V V1 : Value} {xs : List BdT} (h : LkIs W b g l V) (hR : kB.R 65 W' b (fun _ => True) V1 xs) (hg : W.grownBy W' V.ownBlock) (hat : V1.ownBlock = V.ownBlock ∨ ∃ k, V1.ownBlock = some k ∧ W.heap.size ≤ k) :
    LkIs (W'.setCell ⟨g, 2, none⟩ V1) b g { l with wait := xs } V1 ∧ LkOnly W (W'.setCell ⟨g, 2, none⟩ V1) g V V1 := by
  have h1 : Only W W' (fun k => V.ownBlock = some k) := ⟨hg.os, hg.tape, hg.output, hg.size, fun i hi hn => hg.block i hi (fun e => hn e.symm)⟩
  have hX := h1.blk h.X h.neR
  refine ⟨⟨(blk_set hX 2 V1).trans rfl, R_only rfl hR ((Only.refl W' _).set_ 2 V1) (fun k hk e => Kd.R_ne hR hX (by decide) (by rw [← e, hk])), h.ge⟩, ?_, ?_⟩
  · exact (h1.mono (fun i _ hi => .inr hi)).setS (.inl (.inl rfl)) _
  · rcases hat with e | ⟨k, hk, hl⟩
    · exact .inl e
    · exact .inr (fun j hj => by rw [hk] at hj; injection hj with hj; omega)
theorem send_calls (b g : Nat) (l : LkS) (V : Value) (s : ByteArray) (w : World) (h : LkIs w b g l V) (hl : l.wait.length ≤ 32) :
    Calls Try.prog 15 #[.pointer (some ⟨g, 0, none⟩), .string s] w fun e w' => e = .returned (.int .i64 (l.send s).2) ∧ ∃ V', LkIs w' b g (l.send s).1 V' ∧ LkOnly w w' g V V' := by
  have H := Aside0.mk h
  obtain ⟨h0, h1, h2, h3, h4, h5, h6⟩ := h.cells
  obtain ⟨A, c, e, _, _⟩ := Kd.R_reads h.R
  subst e
  unfold LkS.send
  obtain ⟨n, hn⟩ : ∃ n, l.wait.length = n := ⟨_, rfl⟩
  by_cases c1 : 100000 < s.size
  · rw [if_pos c1]
    have d1 : decide ((s.size : Int) > 100000) = true := decide_eq_true (by omega)
    have d2 : decide (s.size > 100000) = true := decide_eq_true (by omega)
    clear h hn
    go_enter Try.func15, Try.ntmps15
    go_wp2
    go_ret
    exact ⟨rfl, _, H.out, LkOnly.refl _ _ _⟩
  · rw [if_neg c1]
    have d1 : decide ((s.size : Int) > 100000) = false := decide_eq_false (by omega)
    have d2 : decide (100000 < s.size) = false := decide_eq_false (by omega)
    by_cases c2 : 32 ≤ l.wait.length
    · rw [if_pos c2]
      rw [hn] at h2 H c2 ⊢
      have d3 : decide ((n : Int) ≥ 32) = true := decide_eq_true (by omega)
      clear h hn
      go_enter Try.func15, Try.ntmps15
      go_wp2
      go_ret
      exact ⟨rfl, _, H.out, LkOnly.refl _ _ _⟩
    · rw [if_neg c2]
      have hgl := h.lt
      have hge := h.ge
      have HR := Aside0.mk h.R
      rw [hn] at h2 H c2 HR hl ⊢
      have d3 : decide ((n : Int) ≥ 32) = false := decide_eq_false (by omega)
      have HL := Aside0.mk hn
      clear h hn
      go_enter Try.func15, Try.ntmps15
      go_wp2_with ((with_reducible refine gate_builtin (b := .append) (xs := #[.tmp 20, .tmp 23]) rfl ?_); at_builtin; refine Kd.R_append kB (w0 := w) b rfl (.tmp 20) (.tmp 23) 61 65 (.agg #[.string ⟨#[]⟩, .bool false, .bool false]) 24 rfl Try.underlying61 infoB rfl (by decide) (by omega) (.slice A n c) l.wait ⟨s, false, true⟩ [.string s, .bool false, .bool true] (fun _ => True) (fun _ => False) rfl rfl ?aP (fun _ hk => hk.elim) ?aF ?aO ?aB ?aS ?aL ?_)
      case aP => exact k65_mkM _ _ _ (⟨s, false, true⟩ : BdT)
      case aF => exact (fun _ _ => trivial)
      case aO => exact HR.out
      case aB => exact Below.refl _ _
      case aS => omega
      case aL => rw [HL.out]; omega
      intro v1 w1 ho hb hg hat
      obtain ⟨Ax, cx, ex⟩ := Kd.R_slice ho
      rw [List.length_append, List.length_singleton, HL.out] at ex
      subst ex
      have hG := H.out.grew ho hg hat
      have HP := Aside0.mk hG
      have hX := blk_grown H.out.X hg (fun e => H.out.neR e.symm)
      have hc2 : w1.cell? ⟨g, 2, none⟩ = some (.slice A n c) := (blk_cell hX 2).trans rfl
      have hf2 := blk_frozen hX 2
      clear ho hb hg hat hG hX h0 h1 h2 h3 h4 h5 h6
      go_wp2
      go_ret
      exact ⟨rfl, _, HP.out.1, HP.out.2⟩
/-- A list whose first k elements are turned. -/
theorem part_get {α : Type} (f : α → α) (l : List α) (k : Nat) (h : k < l.length) : ∃ h2, ((l.take k).map f ++ l.drop k)[k]'h2 = l[k] := by
  have hlen : ((l.take k).map f).length = k := by rw [List.length_map, List.length_take]; omega
  refine ⟨by rw [List.length_append, hlen, List.length_drop]; omega, ?_⟩
  rw [List.getElem_append_right (by omega)]
  simp only [hlen, Nat.sub_self, List.getElem_drop, Nat.add_zero]
theorem part_set {α : Type} (f : α → α) (l : List α) (k : Nat) (h : k < l.length) : ((l.take k).map f ++ l.drop k).set k (f l[k]) = (l.take (k + 1)).map f ++ l.drop (k + 1) := by
  have hlen : ((l.take k).map f).length = k := by rw [List.length_map, List.length_take]; omega
  rw [List.set_append_right _ _ (by omega), hlen, Nat.sub_self, List.drop_eq_getElem_cons h, List.set_cons_zero, List.take_succ_eq_append_getElem h, List.map_append, List.append_assoc]
  rfl
theorem part_len {α : Type} (f : α → α) (l : List α) (k : Nat) : ((l.take k).map f ++ l.drop k).length = l.length := by
  rw [List.length_append, List.length_map, ← List.length_append, List.take_append_drop]

end Go.Proofs.Ytdpogggajdfedaa.P
