-- Printed by this session's program wip/xp.py (a turned copy of the kit's printer): functions, their contracts.
import Derived.Test.YtmjgifhgodgghaaDoorPx0
import Derived.Test.YtmjgifhgodgghaaDoorPx16
namespace Go.Proofs.YtmjgifhgodgghaaDoor.P
open Go.RowKit Go.Proofs.YtmjgifhgodgghaaDoorW.PrintWords Go.Proofs.YtmjgifhgodgghaaDoorW.PrintLast Go.Proofs.YtmjgifhgodgghaaDoorW.PrintMore
attribute [local go_sem] max2_int min2_int max_two min_two max_three min_three max_four min_four   -- for this text's walks alone
set_option linter.unusedVariables false
set_option linter.unusedSimpArgs false

/-! ### carillonref06_From: function 22 -/
def carillonref06_From.l0 : Nat → Int → Int → List (S23) → List (S23) → Int → Option ((List (S23)))
 | 0, _, _, _, _, _ => none
 | k + 1, x2, x3, x9, x13, x14 => if x14 < (x9.length : Int) then (if (x13.length : Int) < x3 then (if 0 ≤ x14 then (if ((rd_T23 x9 x14).f0) ≥ x2 then (if x13.length < 2199023255552 then (carillonref06_From.l0 k x2 x3 x9 (x13 ++ [(⟨(rd_T23 x9 x14).f0, (rd_T23 x9 x14).f1, (rd_T23 x9 x14).f2, (rd_T23 x9 x14).f3, (rd_T23 x9 x14).f4⟩ : S23)]) (wrap64 (x14 + 1))) else (none)) else (carillonref06_From.l0 k x2 x3 x9 x13 (wrap64 (x14 + 1)))) else (none)) else (some x13)) else (some x13)
def carillonref06_From.f (k : Nat) (a0 : Int) (a1 : ByteArray) (a2 : Int) (a3 : Int) : Option ((List (S23))) := (carillonref06_scan.f k a0 a1).bind fun bt404 => (carillonref06_From.l0 k a2 a3 bt404.1 ([] : List (S23)) 0)
theorem carillonref06_From.mono_l : ∀ k, (∀ y0 y1 y2 y3 y4, LeO (carillonref06_From.l0 k y0 y1 y2 y3 y4) (carillonref06_From.l0 (k + 1) y0 y1 y2 y3 y4))
 | 0 => fun _ _ _ _ _ r h => by simp [carillonref06_From.l0] at h
 | k + 1 => by
  have ih0 := carillonref06_From.mono_l k
  ·intro y0 y1 y2 y3 y4
   unfold carillonref06_From.l0
   repeat' first
   | (with_reducible exact ih0 _ _ _ _ _)
   | (with_reducible exact carillonref06_scan.mono _ _ _)
   | (with_reducible exact LeO.refl _)
   | (with_reducible exact LeO.none _)
   | (with_reducible refine LeO.ite ?_ ?_)
   | (with_reducible refine LeO.bind ?_ (fun _ => ?_))
   | exact ih0 _ _ _ _ _
   | exact carillonref06_scan.mono _ _ _
   | exact LeO.none _
   | refine LeO.ite ?_ ?_
   | refine LeO.bind ?_ (fun _ => ?_)
theorem carillonref06_From.mono : ∀ a0 a1 a2 a3 k, LeO (carillonref06_From.f k a0 a1 a2 a3) (carillonref06_From.f (k + 1) a0 a1 a2 a3) := by
 intro a0 a1 a2 a3 k
 have ih0 := carillonref06_From.mono_l k
 unfold carillonref06_From.f
 repeat' first
   | (with_reducible exact ih0 _ _ _ _ _)
   | (with_reducible exact carillonref06_scan.mono _ _ _)
   | (with_reducible exact LeO.refl _)
   | (with_reducible exact LeO.none _)
   | (with_reducible refine LeO.ite ?_ ?_)
   | (with_reducible refine LeO.bind ?_ (fun _ => ?_))
   | exact ih0 _ _ _ _ _
   | exact carillonref06_scan.mono _ _ _
   | exact LeO.none _
   | refine LeO.ite ?_ ?_
   | refine LeO.bind ?_ (fun _ => ?_)
set_option maxHeartbeats 8000000 in
set_option maxRecDepth 100000 in
theorem carillonref06_From.calls (k : Nat) (a0 : Int) (a1 : ByteArray) (a2 : Int) (a3 : Int) (r : List (S23)) (w : World) (h : carillonref06_From.f k a0 a1 a2 a3 = some r) :
  Calls Tryd.prog 22 #[.int .i64 a0, .string a1, .int .i64 a2, .int .i64 a3] w fun e w' => ∃ v0_ : Value, e = .returned (v0_) ∧ Kd.R k23 23 w' w.heap.size (fun _ => True) v0_ r ∧ Below w.heap.size w w' := by
 have hu23 := Tryd.underlying23
 have HB := Aside0.mk (Below.refl w.heap.size w)
 have H : ((carillonref06_scan.f k a0 a1).bind fun bt404 => (carillonref06_From.l0 k a2 a3 bt404.1 ([] : List (S23)) 0)) = some r := h
 clear h
 replace H := Option.bind_eq_some_iff.mp H
 obtain ⟨⟨t404, t405, t406, t407⟩, A50, H⟩ := H
 replace H : (carillonref06_From.l0 k a2 a3 t404 ([] : List (S23)) 0) = some r := H
 have A5 := Aside0.mk A50
 clear A50
 have H' := Aside0.mk H
 clear H
 go_enter Tryd.func22, Tryd.ntmps22
 go_wp2_with (first | ((with_reducible refine gate_callee (f := 29) rfl ?_); refine goesL_ (some 18) rfl rfl Tryd.func29 (by kernel_rfl) rfl #[.int .i64 a0, .string a1] rfl am ?_; (with_reducible refine (carillonref06_scan.calls k a0 a1 t404 t405 t406 t407 _ A5.out).mono ?_); rintro e w6 ⟨v408, v410, rfl, ho0, ho1, hb⟩; refine ⟨_, rfl, ?_⟩; have n0_ := Aside0.mk (Kd.R_lower ho0 (below_size bw)); have n1_ := Aside0.mk (Kd.R_lower ho1 (below_size bw)); have n2_ := Aside0.mk (below_step bw hb); clear HB; have HO409 := n0_; have HO411 := n1_; have HB := n2_; clear n0_ n1_ n2_; (try clear hb); (try clear hb2); (try clear hk); (try clear hi); (try clear ho0); (try clear ho1)))
 go_loopg [13, 14] k (fun kq v13 v14 w' => ∃ (x13_1 : List (S23)) (x14_1 : Int), v14 = .int .i64 x14_1 ∧ Aside0 (carillonref06_From.l0 kq a2 a3 t404 x13_1 x14_1 = some r) ∧ Aside0 (kq ≤ k) ∧ Aside0 (Kd.R k23 23 w' w.heap.size (fun k_ => some k_ ≠ (v13 : Value).ownBlock) v408 t404) ∧ Aside0 (Kd.R k23 23 w' w.heap.size (fun k_ => some k_ ≠ (v408 : Value).ownBlock) v13 x13_1) ∧ Aside0 (Below w.heap.size w w'))
 case atStart => exact ⟨(([] : List (S23))), (0), (by first | rfl | (simp; done) | (simp [*]; done)), H', ⟨Nat.le_refl _⟩, ⟨by (with_reducible repeat (first | apply Kd.R_alloc | apply Kd.R_drewN | apply Kd.R_drew)); exact Kd.R_mono HO409.out (fun _ hk => (by simp [Value.ownBlock]))⟩, ⟨by first | exact Kd.R_nil _ _ _ _ _ | exact Kd.N_nil _ _ _ _ _ | exact Kd.V_nil _ _ _ _ _ | exact Kd.Q_nil _ _ _ _ _ | exact Kd.S_nil _ _ _ _ _⟩, ⟨bw⟩⟩
 case round =>
  clear H'
  try clear c2
  try clear p2
  obtain ⟨x13_1, x14_1, rfl, HA, HK1, HO_9, HO_13, HB⟩ := hrel
  cases gk with
  | zero => exact absurd HA.out (by simp [carillonref06_From.l0])
  | succ k1 =>
   have H := HA.out
   clear HA
   simp only [carillonref06_From.l0] at H
   by_cases c7 : x14_1 < (t404.length : Int)
   ·rw [if_pos c7] at H
    have c7b0 : decide (x14_1 < (t404.length : Int)) = true := decide_eq_true c7
    clear c7
    by_cases c8 : (x13_1.length : Int) < a3
    ·rw [if_pos c8] at H
     have c8b0 : decide ((x13_1.length : Int) < a3) = true := decide_eq_true c8
     clear c8
     by_cases c9 : 0 ≤ x14_1
     ·rw [if_pos c9] at H
      have c9b0 : decide (0 ≤ x14_1) = true := decide_eq_true c9
      clear c9
      by_cases c10 : ((rd_T23 t404 x14_1).f0) ≥ a2
      ·rw [if_pos c10] at H
       have c10b0 : decide (a2 ≤ ((rd_T23 t404 x14_1).f0)) = true := decide_eq_true c10
       clear c10
       by_cases c11 : x13_1.length < 2199023255552
       ·rw [if_pos c11] at H
        have LMc11 := Aside0.mk c11
        clear c11
        obtain ⟨y414, hy414⟩ : ∃ y_ : List (S23), y_ = (x13_1 ++ [(⟨(rd_T23 t404 x14_1).f0, (rd_T23 t404 x14_1).f1, (rd_T23 t404 x14_1).f2, (rd_T23 t404 x14_1).f3, (rd_T23 t404 x14_1).f4⟩ : S23)]) := ⟨_, rfl⟩
        replace H : (carillonref06_From.l0 k1 a2 a3 t404 y414 (wrap64 (x14_1 + 1))) = some r := by first | (rw [hy414]; with_reducible exact H) | (have H2_ := (Option.bind_some _ _).symm.trans H; rw [hy414]; with_reducible exact H2_) | (have H2_ := (Option.bind_some _ _).symm.trans H; with_reducible exact H2_) | with_reducible exact H | (rw [hy414]; exact H) | exact H
        have Ny414 := Aside0.mk hy414
        clear hy414
        have H' := Aside0.mk H
        clear H
        obtain ⟨Ao12, co12, eo12⟩ := Kd.R_slice HO_9.out
        subst eo12
        obtain ⟨Ao13, co13, eo13⟩ := Kd.R_slice HO_13.out
        subst eo13
        have p412 : 0 ≤ (x14_1 : Int) := of_decide_eq_true (by first | (with_reducible assumption) | assumption)
        have q412 : x14_1 < (t404.length : Int) := of_decide_eq_true (by first | (with_reducible assumption) | assumption)
        obtain ⟨ad412, e412, hx412_0, hx412_1, hx412_2, hx412_3, hx412_4⟩ := at_T23 (Kd.R_reads' HO_9.out).2.2 x14_1 p412 q412
        cases e412
        replace p412 := eq_true p412
        replace q412 := eq_true q412
        have p413 : 0 ≤ (x14_1 : Int) := of_decide_eq_true (by first | (with_reducible assumption) | assumption)
        have q413 : x14_1 < (t404.length : Int) := of_decide_eq_true (by first | (with_reducible assumption) | assumption)
        obtain ⟨ad413, e413, hx413_0, hx413_1, hx413_2, hx413_3, hx413_4⟩ := at_T23 (Kd.R_reads' HO_9.out).2.2 x14_1 p413 q413
        obtain rfl : ad412 = ad413 := (by injection e413)
        replace p413 := eq_true p413
        replace q413 := eq_true q413
        go_wp2_with (first | ((with_reducible refine gate_builtin (b := .append) (xs := #[.tmp 42, .tmp 47]) rfl ?_); (try (refine gate_guard (by rfl) ?_; dsimp only)); at_builtin; refine Kd.R_append k23 (w0 := w) w.heap.size rfl (.tmp 42) (.tmp 47) 31 23 (.agg #[(.int .i64 0), (.string ⟨#[]⟩), (.int .i64 0), (.string ⟨#[]⟩), (.string ⟨#[]⟩)]) 64 rfl Tryd.underlying31 info23 rfl (by decide) (by omega) (.slice Ao13 x13_1.length co13) x13_1 (⟨(rd_T23 t404 x14_1).f0, (rd_T23 t404 x14_1).f1, (rd_T23 t404 x14_1).f2, (rd_T23 t404 x14_1).f3, (rd_T23 t404 x14_1).f4⟩ : S23) [.int .i64 ((rd_T23 t404 x14_1).f0), .string ((rd_T23 t404 x14_1).f1), .int .i64 ((rd_T23 t404 x14_1).f2), .string ((rd_T23 t404 x14_1).f3), .string ((rd_T23 t404 x14_1).f4)] (fun k_ => some k_ ≠ (.slice (some ad412) t404.length co12 : Value).ownBlock) (fun _ => False) rfl rfl ?aP (fun _ hk => hk.elim) ?aF ?aO ?aB ?aS ?aL ?_; (case aP => exact k23_mkM _ _ _ (⟨(rd_T23 t404 x14_1).f0, (rd_T23 t404 x14_1).f1, (rd_T23 t404 x14_1).f2, (rd_T23 t404 x14_1).f3, (rd_T23 t404 x14_1).f4⟩ : S23)); (case aB => exact bw); (case aF => exact (fun k_ hk => Kd.fresh' (Kd.R_lt (by (with_reducible repeat (first | apply Kd.R_alloc | apply Kd.R_drewN | apply Kd.R_drew)); exact HO_9.out)) k_ hk)); (case aO => exact (by (with_reducible repeat (first | apply Kd.R_alloc | apply Kd.R_drewN | apply Kd.R_drew)); exact HO_13.out)); (case aS => exact (below_size bw)); (case aL => have := LMc11.out; omega); intro v415 w14 ho hb hg hat; rw [← Ny414.out] at ho; have n0_ := Aside0.mk (Kd.R_after (ok := (fun _ => True)) (by (with_reducible repeat (first | apply Kd.R_alloc | apply Kd.R_drewN | apply Kd.R_drew)); exact Kd.R_mono HO_9.out (fun _ hk => ⟨trivial, hk⟩)) hg hat); have n1_ := Aside0.mk (hb); have n2_ := Aside0.mk (ho); clear HO_9; clear HB; clear HO_13; have HO_9 := n0_; have HB := n1_; have HO416 := n2_; clear n0_ n1_ n2_; clear ho hb hg hat))
        go_roundg k1
        case measure => have := HK1.out; omega
        case rel => exact ⟨(y414), (wrap64 (x14_1 + 1)), (by first | rfl | (simp; done) | (simp [*]; done)), H', ⟨by have := HK1.out; omega⟩, ⟨by (with_reducible repeat (first | apply Kd.R_alloc | apply Kd.R_drewN | apply Kd.R_drew)); exact Kd.R_mono HO_9.out (fun _ hk => hk.2)⟩, ⟨by (with_reducible repeat (first | apply Kd.R_alloc | apply Kd.R_drewN | apply Kd.R_drew)); exact HO416.out⟩, ⟨bw⟩⟩
       ·rw [if_neg c11] at H
        exact absurd H (by simp)
      ·rw [if_neg c10] at H
       have c10b0 : decide (a2 ≤ ((rd_T23 t404 x14_1).f0)) = false := decide_eq_false c10
       clear c10
       have H' := Aside0.mk H
       clear H
       obtain ⟨Ao15, co15, eo15⟩ := Kd.R_slice HO_9.out
       subst eo15
       obtain ⟨Ao16, co16, eo16⟩ := Kd.R_slice HO_13.out
       subst eo16
       have p412 : 0 ≤ (x14_1 : Int) := of_decide_eq_true (by first | (with_reducible assumption) | assumption)
       have q412 : x14_1 < (t404.length : Int) := of_decide_eq_true (by first | (with_reducible assumption) | assumption)
       obtain ⟨ad412, e412, hx412_0, hx412_1, hx412_2, hx412_3, hx412_4⟩ := at_T23 (Kd.R_reads' HO_9.out).2.2 x14_1 p412 q412
       cases e412
       replace p412 := eq_true p412
       replace q412 := eq_true q412
       go_wp2
       go_roundg k1
       case measure => have := HK1.out; omega
       case rel => exact ⟨(x13_1), (wrap64 (x14_1 + 1)), (by first | rfl | (simp; done) | (simp [*]; done)), H', ⟨by have := HK1.out; omega⟩, ⟨by (with_reducible repeat (first | apply Kd.R_alloc | apply Kd.R_drewN | apply Kd.R_drew)); exact HO_9.out⟩, ⟨by (with_reducible repeat (first | apply Kd.R_alloc | apply Kd.R_drewN | apply Kd.R_drew)); exact HO_13.out⟩, ⟨bw⟩⟩
     ·rw [if_neg c9] at H
      exact absurd H (by simp)
    ·rw [if_neg c8] at H
     have c8b0 : decide ((x13_1.length : Int) < a3) = false := decide_eq_false c8
     clear c8
     obtain rfl := Option.some.inj H
     obtain ⟨Ao17, co17, eo17⟩ := Kd.R_slice HO_9.out
     subst eo17
     obtain ⟨Ao18, co18, eo18⟩ := Kd.R_slice HO_13.out
     subst eo18
     go_wp2
     go_ret
     exact ⟨_, er, by (with_reducible repeat (first | apply Kd.R_alloc | apply Kd.R_drewN | apply Kd.R_drew)); exact Kd.R_mono HO_13.out (fun _ hk => trivial), bw⟩
   ·rw [if_neg c7] at H
    have c7b0 : decide (x14_1 < (t404.length : Int)) = false := decide_eq_false c7
    clear c7
    obtain rfl := Option.some.inj H
    obtain ⟨Ao19, co19, eo19⟩ := Kd.R_slice HO_9.out
    subst eo19
    go_wp2
    go_ret
    exact ⟨_, er, by (with_reducible repeat (first | apply Kd.R_alloc | apply Kd.R_drewN | apply Kd.R_drew)); exact Kd.R_mono HO_13.out (fun _ hk => trivial), bw⟩

end Go.Proofs.YtmjgifhgodgghaaDoor.P
