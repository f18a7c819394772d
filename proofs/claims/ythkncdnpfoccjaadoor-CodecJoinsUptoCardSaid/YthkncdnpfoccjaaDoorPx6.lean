-- Printed by this session's program wip/xp.py (a turned copy of the kit's printer): functions, their contracts.
import Derived.Test.YthkncdnpfoccjaaDoorPx0
import Derived.Test.YthkncdnpfoccjaaDoorPx5
namespace Go.Proofs.YthkncdnpfoccjaaDoor.P
open Go.RowKit Go.Proofs.YthkncdnpfoccjaaDoorW.PrintWords Go.Proofs.YthkncdnpfoccjaaDoorW.PrintLast Go.Proofs.YthkncdnpfoccjaaDoorW.PrintMore
attribute [local go_sem] max2_int min2_int max_two min_two max_three min_three max_four min_four   -- for this text's walks alone
set_option linter.unusedVariables false
set_option linter.unusedSimpArgs false

/-! ### carillonref01_Decode: function 11 -/
def carillonref01_Decode.l0 : Nat → ByteArray → List Int → List Int → List (S32) → Int → Option ((List (S32)) × Int)
  | 0, _, _, _, _, _ => none
  | k + 1, x1, x6, x7, x9, x10 => if x10 < (x6.length : Int) then (if x10 ≥ (x6.length : Int) then (if (x7.length : Int) = 0 then (none) else (if (Int.tmod (wrap64 (x10 - (x6.length : Int))) (x7.length : Int)) = 0 then (if x1.toList = ([] : List UInt8) then (some (x9, 0)) else (if 0 ≤ x10 then (if (x9.length : Int) = 1000 then (some (([] : List (S32)), 3)) else ((carillonref01_take.f k (rd x6 x10) x1).bind fun bt190 => (if bt190.2.2.2.2 = 0 then (if x9.length < 4398046511104 then (if 0 ≤ bt190.2.2.2.1 then (if bt190.2.2.2.1 ≤ (x1.size : Int) then (carillonref01_Decode.l0 k (x1.extract (bt190.2.2.2.1 : Int).toNat x1.size) x6 x7 (x9 ++ [(⟨bt190.1, bt190.2.1, bt190.2.2.1⟩ : S32)]) (wrap64 (x10 + 1))) else (none)) else (none)) else (none)) else (some (([] : List (S32)), bt190.2.2.2.2))))) else (none))) else (if 0 ≤ x10 then (if (x9.length : Int) = 1000 then (some (([] : List (S32)), 3)) else ((carillonref01_take.f k (rd x6 x10) x1).bind fun bt200 => (if bt200.2.2.2.2 = 0 then (if x9.length < 4398046511104 then (if 0 ≤ bt200.2.2.2.1 then (if bt200.2.2.2.1 ≤ (x1.size : Int) then (carillonref01_Decode.l0 k (x1.extract (bt200.2.2.2.1 : Int).toNat x1.size) x6 x7 (x9 ++ [(⟨bt200.1, bt200.2.1, bt200.2.2.1⟩ : S32)]) (wrap64 (x10 + 1))) else (none)) else (none)) else (none)) else (some (([] : List (S32)), bt200.2.2.2.2))))) else (none)))) else (if 0 ≤ x10 then (if (x9.length : Int) = 1000 then (some (([] : List (S32)), 3)) else ((carillonref01_take.f k (rd x6 x10) x1).bind fun bt210 => (if bt210.2.2.2.2 = 0 then (if x9.length < 4398046511104 then (if 0 ≤ bt210.2.2.2.1 then (if bt210.2.2.2.1 ≤ (x1.size : Int) then (carillonref01_Decode.l0 k (x1.extract (bt210.2.2.2.1 : Int).toNat x1.size) x6 x7 (x9 ++ [(⟨bt210.1, bt210.2.1, bt210.2.2.1⟩ : S32)]) (wrap64 (x10 + 1))) else (none)) else (none)) else (none)) else (some (([] : List (S32)), bt210.2.2.2.2))))) else (none))) else (if (x7.length : Int) > 0 then (if x10 ≥ (x6.length : Int) then (if (x7.length : Int) = 0 then (none) else (if (Int.tmod (wrap64 (x10 - (x6.length : Int))) (x7.length : Int)) = 0 then (if x1.toList = ([] : List UInt8) then (some (x9, 0)) else (if 0 ≤ (Int.tmod (wrap64 (x10 - (x6.length : Int))) (x7.length : Int)) then (if (Int.tmod (wrap64 (x10 - (x6.length : Int))) (x7.length : Int)) < (x7.length : Int) then (if (x9.length : Int) = 1000 then (some (([] : List (S32)), 3)) else ((carillonref01_take.f k (rd x7 (Int.tmod (wrap64 (x10 - (x6.length : Int))) (x7.length : Int))) x1).bind fun bt220 => (if bt220.2.2.2.2 = 0 then (if x9.length < 4398046511104 then (if 0 ≤ bt220.2.2.2.1 then (if bt220.2.2.2.1 ≤ (x1.size : Int) then (carillonref01_Decode.l0 k (x1.extract (bt220.2.2.2.1 : Int).toNat x1.size) x6 x7 (x9 ++ [(⟨bt220.1, bt220.2.1, bt220.2.2.1⟩ : S32)]) (wrap64 (x10 + 1))) else (none)) else (none)) else (none)) else (some (([] : List (S32)), bt220.2.2.2.2))))) else (none)) else (none))) else (if 0 ≤ (Int.tmod (wrap64 (x10 - (x6.length : Int))) (x7.length : Int)) then (if (Int.tmod (wrap64 (x10 - (x6.length : Int))) (x7.length : Int)) < (x7.length : Int) then (if (x9.length : Int) = 1000 then (some (([] : List (S32)), 3)) else ((carillonref01_take.f k (rd x7 (Int.tmod (wrap64 (x10 - (x6.length : Int))) (x7.length : Int))) x1).bind fun bt230 => (if bt230.2.2.2.2 = 0 then (if x9.length < 4398046511104 then (if 0 ≤ bt230.2.2.2.1 then (if bt230.2.2.2.1 ≤ (x1.size : Int) then (carillonref01_Decode.l0 k (x1.extract (bt230.2.2.2.1 : Int).toNat x1.size) x6 x7 (x9 ++ [(⟨bt230.1, bt230.2.1, bt230.2.2.1⟩ : S32)]) (wrap64 (x10 + 1))) else (none)) else (none)) else (none)) else (some (([] : List (S32)), bt230.2.2.2.2))))) else (none)) else (none)))) else (if (x7.length : Int) = 0 then (none) else (if 0 ≤ (Int.tmod (wrap64 (x10 - (x6.length : Int))) (x7.length : Int)) then (if (Int.tmod (wrap64 (x10 - (x6.length : Int))) (x7.length : Int)) < (x7.length : Int) then (if (x9.length : Int) = 1000 then (some (([] : List (S32)), 3)) else ((carillonref01_take.f k (rd x7 (Int.tmod (wrap64 (x10 - (x6.length : Int))) (x7.length : Int))) x1).bind fun bt240 => (if bt240.2.2.2.2 = 0 then (if x9.length < 4398046511104 then (if 0 ≤ bt240.2.2.2.1 then (if bt240.2.2.2.1 ≤ (x1.size : Int) then (carillonref01_Decode.l0 k (x1.extract (bt240.2.2.2.1 : Int).toNat x1.size) x6 x7 (x9 ++ [(⟨bt240.1, bt240.2.1, bt240.2.2.1⟩ : S32)]) (wrap64 (x10 + 1))) else (none)) else (none)) else (none)) else (some (([] : List (S32)), bt240.2.2.2.2))))) else (none)) else (none)))) else (if x1.toList = ([] : List UInt8) then (some (x9, 0)) else (some (([] : List (S32)), 10))))
def carillonref01_Decode.f (k : Nat) (a0 : ByteArray) (a1 : ByteArray) : Option ((List (S32)) × Int) := (carillonref01_kinds.f k a0).bind fun bt182 => (if bt182.2.2 = true then (carillonref01_Decode.l0 k a1 bt182.1 bt182.2.1 ([] : List (S32)) 0) else (some (([] : List (S32)), 1)))
theorem carillonref01_Decode.mono_l : ∀ k, (∀ y0 y1 y2 y3 y4, LeO (carillonref01_Decode.l0 k y0 y1 y2 y3 y4) (carillonref01_Decode.l0 (k + 1) y0 y1 y2 y3 y4))
  | 0 => fun _ _ _ _ _ r h => by simp [carillonref01_Decode.l0] at h
  | k + 1 => by
    have ih0 := carillonref01_Decode.mono_l k
    · intro y0 y1 y2 y3 y4
      unfold carillonref01_Decode.l0
      repeat' first
      | (with_reducible exact ih0 _ _ _ _ _)
      | (with_reducible exact carillonref01_kinds.mono _ _)
      | (with_reducible exact carillonref01_take.mono _ _ _)
      | (with_reducible exact LeO.refl _)
      | (with_reducible exact LeO.none _)
      | (with_reducible refine LeO.ite ?_ ?_)
      | (with_reducible refine LeO.bind ?_ (fun _ => ?_))
      | exact ih0 _ _ _ _ _
      | exact carillonref01_kinds.mono _ _
      | exact carillonref01_take.mono _ _ _
      | exact LeO.none _
      | refine LeO.ite ?_ ?_
      | refine LeO.bind ?_ (fun _ => ?_)
theorem carillonref01_Decode.mono : ∀ a0 a1 k, LeO (carillonref01_Decode.f k a0 a1) (carillonref01_Decode.f (k + 1) a0 a1) := by
  intro a0 a1 k
  have ih0 := carillonref01_Decode.mono_l k
  unfold carillonref01_Decode.f
  repeat' first
      | (with_reducible exact ih0 _ _ _ _ _)
      | (with_reducible exact carillonref01_kinds.mono _ _)
      | (with_reducible exact carillonref01_take.mono _ _ _)
      | (with_reducible exact LeO.refl _)
      | (with_reducible exact LeO.none _)
      | (with_reducible refine LeO.ite ?_ ?_)
      | (with_reducible refine LeO.bind ?_ (fun _ => ?_))
      | exact ih0 _ _ _ _ _
      | exact carillonref01_kinds.mono _ _
      | exact carillonref01_take.mono _ _ _
      | exact LeO.none _
      | refine LeO.ite ?_ ?_
      | refine LeO.bind ?_ (fun _ => ?_)
set_option maxHeartbeats 8000000 in
set_option maxRecDepth 100000 in
theorem carillonref01_Decode.calls (k : Nat) (a0 : ByteArray) (a1 : ByteArray) (r1 : List (S32)) (r2 : Int) (w : World) (h : carillonref01_Decode.f k a0 a1 = some (r1, r2)) :
    Calls Tryd.prog 11 #[.string a0, .string a1] w fun e w' => ∃ v0_ : Value, e = .returned (.tuple #[v0_, .int .i64 r2]) ∧ Kd.R k32 32 w' w.heap.size (fun _ => True) v0_ r1 ∧ Below w.heap.size w w' := by
  have hu32 := Tryd.underlying32
  have HB := Aside0.mk (Below.refl w.heap.size w)
  have H : ((carillonref01_kinds.f k a0).bind fun bt182 => (if bt182.2.2 = true then (carillonref01_Decode.l0 k a1 bt182.1 bt182.2.1 ([] : List (S32)) 0) else (some (([] : List (S32)), 1)))) = some (r1, r2) := h
  clear h
  replace H := Option.bind_eq_some_iff.mp H
  obtain ⟨⟨t182, t183, t184⟩, A30, H⟩ := H
  replace H : (if t184 = true then (carillonref01_Decode.l0 k a1 t182 t183 ([] : List (S32)) 0) else (some (([] : List (S32)), 1))) = some (r1, r2) := H
  have A3 := Aside0.mk A30
  clear A30
  by_cases c4 : t184 = true
  · subst c4
    have H1 : (carillonref01_Decode.l0 k a1 t182 t183 ([] : List (S32)) 0) = some (r1, r2) := by rw [if_pos rfl] at H; exact H
    clear H
    have H := H1
    clear H1
    have H' := Aside0.mk H
    clear H
    go_enter Tryd.func11, Tryd.ntmps11
    go_wp2_with (first | ((with_reducible refine gate_callee (f := 20) rfl ?_); refine goesL_ (some 17) rfl rfl Tryd.func20 (by kernel_rfl) rfl #[.string a0] rfl am ?_; (with_reducible refine (carillonref01_kinds.calls k a0 t182 t183 true _ A3.out).mono ?_); rintro e w5 ⟨v185, v187, rfl, ho0, ho1, hb⟩; refine ⟨_, rfl, ?_⟩; have n0_ := Aside0.mk (Kd.R_lower ho0 (below_size bw)); have n1_ := Aside0.mk (Kd.R_lower ho1 (below_size bw)); have n2_ := Aside0.mk (below_step bw hb); clear HB; have HO186 := n0_; have HO188 := n1_; have HB := n2_; clear n0_ n1_ n2_; (try clear hb); (try clear hb2); (try clear hk); (try clear hi); (try clear ho0); (try clear ho1)))
    go_loopg [1, 9, 10] k (fun kq v1 v9 v10 w' => ∃ (x1_1 : ByteArray) (x9_1 : List (S32)) (x10_1 : Int), v1 = .string x1_1 ∧ v10 = .int .i64 x10_1 ∧ Aside0 (carillonref01_Decode.l0 kq x1_1 t182 t183 x9_1 x10_1 = some (r1, r2)) ∧ Aside0 (kq ≤ k) ∧ Aside0 (Kd.R (Kd.int .i64) 3 w' w.heap.size (fun k_ => some k_ ≠ (v187 : Value).ownBlock) v185 t182) ∧ Aside0 (Kd.R (Kd.int .i64) 3 w' w.heap.size (fun k_ => some k_ ≠ (v185 : Value).ownBlock) v187 t183) ∧ Aside0 (Kd.R k32 32 w' w.heap.size (fun _ => True) v9 x9_1) ∧ Aside0 (Below w.heap.size w w'))
    case atStart => exact ⟨(a1), (([] : List (S32))), (0), (by first | rfl | (simp; done) | (simp [*]; done)), (by first | rfl | (simp; done) | (simp [*]; done)), H', ⟨Nat.le_refl _⟩, ⟨by (with_reducible repeat (first | apply Kd.R_alloc | apply Kd.R_drewN | apply Kd.R_drew)); exact HO186.out⟩, ⟨by (with_reducible repeat (first | apply Kd.R_alloc | apply Kd.R_drewN | apply Kd.R_drew)); exact HO188.out⟩, ⟨by first | exact Kd.R_nil _ _ _ _ _ | exact Kd.N_nil _ _ _ _ _ | exact Kd.V_nil _ _ _ _ _ | exact Kd.Q_nil _ _ _ _ _ | exact Kd.S_nil _ _ _ _ _⟩, ⟨bw⟩⟩
    case round =>
      clear H'
      try clear c1
      try clear c2
      try clear p2
      try clear c4
      obtain ⟨x1_1, x9_1, x10_1, rfl, rfl, HA, HK1, HO_6, HO_7, HO_9, HB⟩ := hrel
      cases gk with
      | zero => exact absurd HA.out (by simp [carillonref01_Decode.l0])
      | succ k1 =>
        have H := HA.out
        clear HA
        simp only [carillonref01_Decode.l0] at H
        by_cases c6 : x10_1 < (t182.length : Int)
        · rw [if_pos c6] at H
          have c6b0 : decide (x10_1 < (t182.length : Int)) = true := decide_eq_true c6
          clear c6
          by_cases c7 : x10_1 ≥ (t182.length : Int)
          · rw [if_pos c7] at H
            have c7b0 : decide ((t182.length : Int) ≤ x10_1) = true := decide_eq_true c7
            clear c7
            by_cases c8 : (t183.length : Int) = 0
            · rw [if_pos c8] at H
              exact absurd H (by simp)
            · rw [if_neg c8] at H
              have c8b0 : ((t183.length : Int) == 0) = false := beq_eq_false_iff_ne.mpr c8
              have c8b1 : ((t183.length : Int) != 0) = true := bne_iff_ne.mpr c8
              have c8b2 : ¬ (t183 = []) := fun h_ => c8 (by rw [h_]; rfl)
              by_cases c9 : (Int.tmod (wrap64 (x10_1 - (t182.length : Int))) (t183.length : Int)) = 0
              · rw [if_pos c9] at H
                have c9b0 : ((Int.tmod (wrap64 (x10_1 - (t182.length : Int))) (t183.length : Int)) == 0) = true := beq_iff_eq.mpr c9
                have c9b1 : ((Int.tmod (wrap64 (x10_1 - (t182.length : Int))) (t183.length : Int)) != 0) = false := bne_eq_false_iff_eq.mpr c9
                clear c9
                by_cases c10 : x1_1.toList = ([] : List UInt8)
                · rw [if_pos c10] at H
                  have c10b0 : (x1_1.toList == ([] : List UInt8)) = true := beq_iff_eq.mpr c10
                  have c10b1 : (x1_1.toList != ([] : List UInt8)) = false := bne_eq_false_iff_eq.mpr c10
                  clear c10
                  simp only [Option.some.injEq, Prod.mk.injEq] at H
                  obtain ⟨rfl, rfl⟩ := H
                  obtain ⟨Ao11, co11, eo11⟩ := Kd.R_slice HO_6.out
                  subst eo11
                  obtain ⟨Ao12, co12, eo12⟩ := Kd.R_slice HO_7.out
                  subst eo12
                  go_wp2
                  go_ret2
                  exact ⟨_, er, by (with_reducible repeat (first | apply Kd.R_alloc | apply Kd.R_drewN | apply Kd.R_drew)); exact HO_9.out, bw⟩
                · rw [if_neg c10] at H
                  have c10b0 : (x1_1.toList == ([] : List UInt8)) = false := beq_eq_false_iff_ne.mpr c10
                  have c10b1 : (x1_1.toList != ([] : List UInt8)) = true := bne_iff_ne.mpr c10
                  by_cases c13 : 0 ≤ x10_1
                  · rw [if_pos c13] at H
                    have c13b0 : decide (0 ≤ x10_1) = true := decide_eq_true c13
                    clear c13
                    by_cases c14 : (x9_1.length : Int) = 1000
                    · rw [if_pos c14] at H
                      have c14b0 : ((x9_1.length : Int) == 1000) = true := beq_iff_eq.mpr c14
                      have c14b1 : ((x9_1.length : Int) != 1000) = false := bne_eq_false_iff_eq.mpr c14
                      clear c14
                      simp only [Option.some.injEq, Prod.mk.injEq] at H
                      obtain ⟨rfl, rfl⟩ := H
                      obtain ⟨Ao15, co15, eo15⟩ := Kd.R_slice HO_6.out
                      subst eo15
                      obtain ⟨Ao16, co16, eo16⟩ := Kd.R_slice HO_7.out
                      subst eo16
                      have p189 : 0 ≤ (x10_1 : Int) := of_decide_eq_true (by first | (with_reducible assumption) | assumption)
                      have q189 : x10_1 < (t182.length : Int) := of_decide_eq_true (by first | (with_reducible assumption) | assumption)
                      obtain ⟨ad189, e189, hx189_0⟩ := Kd.at_int (Kd.R_reads' HO_6.out).2.2 x10_1 p189 q189
                      cases e189
                      replace p189 := eq_true p189
                      replace q189 := eq_true q189
                      obtain ⟨Ao17, co17, eo17⟩ := Kd.R_slice HO_9.out
                      subst eo17
                      go_wp2
                      go_ret2
                      exact ⟨_, er, by first | exact Kd.R_nil _ _ _ _ _ | exact Kd.N_nil _ _ _ _ _ | exact Kd.V_nil _ _ _ _ _ | exact Kd.Q_nil _ _ _ _ _ | exact Kd.S_nil _ _ _ _ _, bw⟩
                    · rw [if_neg c14] at H
                      have c14b0 : ((x9_1.length : Int) == 1000) = false := beq_eq_false_iff_ne.mpr c14
                      have c14b1 : ((x9_1.length : Int) != 1000) = true := bne_iff_ne.mpr c14
                      replace H := Option.bind_eq_some_iff.mp H
                      obtain ⟨⟨t190, t191, t192, t193, t194⟩, A180, H⟩ := H
                      replace H : (if t194 = 0 then (if x9_1.length < 4398046511104 then (if 0 ≤ t193 then (if t193 ≤ (x1_1.size : Int) then (carillonref01_Decode.l0 k1 (x1_1.extract (t193 : Int).toNat x1_1.size) t182 t183 (x9_1 ++ [(⟨t190, t191, t192⟩ : S32)]) (wrap64 (x10_1 + 1))) else (none)) else (none)) else (none)) else (some (([] : List (S32)), t194))) = some (r1, r2) := H
                      have A18 := Aside0.mk A180
                      clear A180
                      by_cases c19 : t194 = 0
                      · rw [if_pos c19] at H
                        have c19b0 : (t194 == 0) = true := beq_iff_eq.mpr c19
                        have c19b1 : (t194 != 0) = false := bne_eq_false_iff_eq.mpr c19
                        clear c19
                        by_cases c20 : x9_1.length < 4398046511104
                        · rw [if_pos c20] at H
                          have LMc20 := Aside0.mk c20
                          clear c20
                          obtain ⟨y196, hy196⟩ : ∃ y_ : List (S32), y_ = (x9_1 ++ [(⟨t190, t191, t192⟩ : S32)]) := ⟨_, rfl⟩
                          replace H : (if 0 ≤ t193 then (if t193 ≤ (x1_1.size : Int) then (carillonref01_Decode.l0 k1 (x1_1.extract (t193 : Int).toNat x1_1.size) t182 t183 y196 (wrap64 (x10_1 + 1))) else (none)) else (none)) = some (r1, r2) := by first | (rw [hy196]; with_reducible exact H) | (have H2_ := (Option.bind_some _ _).symm.trans H; rw [hy196]; with_reducible exact H2_) | (have H2_ := (Option.bind_some _ _).symm.trans H; with_reducible exact H2_) | with_reducible exact H | (rw [hy196]; exact H) | exact H
                          have Ny196 := Aside0.mk hy196
                          clear hy196
                          by_cases c21 : 0 ≤ t193
                          · rw [if_pos c21] at H
                            have c21b0 := eq_true c21
                            have c21b1 : decide (0 ≤ t193) = true := decide_eq_true c21
                            clear c21
                            by_cases c22 : t193 ≤ (x1_1.size : Int)
                            · rw [if_pos c22] at H
                              have c22b0 := eq_true c22
                              have c22b1 : decide (t193 ≤ (x1_1.size : Int)) = true := decide_eq_true c22
                              clear c22
                              have H' := Aside0.mk H
                              clear H
                              obtain ⟨Ao23, co23, eo23⟩ := Kd.R_slice HO_6.out
                              subst eo23
                              obtain ⟨Ao24, co24, eo24⟩ := Kd.R_slice HO_7.out
                              subst eo24
                              have p189 : 0 ≤ (x10_1 : Int) := of_decide_eq_true (by first | (with_reducible assumption) | assumption)
                              have q189 : x10_1 < (t182.length : Int) := of_decide_eq_true (by first | (with_reducible assumption) | assumption)
                              obtain ⟨ad189, e189, hx189_0⟩ := Kd.at_int (Kd.R_reads' HO_6.out).2.2 x10_1 p189 q189
                              cases e189
                              replace p189 := eq_true p189
                              replace q189 := eq_true q189
                              obtain ⟨Ao25, co25, eo25⟩ := Kd.R_slice HO_9.out
                              subst eo25
                              go_wp2_with (first | ((with_reducible refine gate_callee (f := 21) rfl ?_); refine goesL_ (some 77) rfl rfl Tryd.func21 (by kernel_rfl) rfl #[.int .i64 (rd t182 x10_1), .string x1_1] rfl am ?_; (with_reducible refine (carillonref01_take.calls k1 (rd t182 x10_1) x1_1 t190 t191 t192 t193 t194 _ A18.out).mono ?_); rintro e w26 ⟨rfl, hb⟩; refine ⟨_, rfl, ?_⟩; have n0_ := Aside0.mk (Kd.R_below (by (with_reducible repeat (first | apply Kd.R_alloc | apply Kd.R_drewN | apply Kd.R_drew)); exact HO_6.out) hb); have n1_ := Aside0.mk (Kd.R_below (by (with_reducible repeat (first | apply Kd.R_alloc | apply Kd.R_drewN | apply Kd.R_drew)); exact HO_7.out) hb); have n2_ := Aside0.mk (Kd.R_below (by (with_reducible repeat (first | apply Kd.R_alloc | apply Kd.R_drewN | apply Kd.R_drew)); exact HO_9.out) hb); have n3_ := Aside0.mk (below_step bw hb); clear HO_6; clear HO_7; clear HO_9; clear HB; have HO_6 := n0_; have HO_7 := n1_; have HO_9 := n2_; have HB := n3_; clear n0_ n1_ n2_ n3_; (try clear hb); (try clear hb2); (try clear hk); (try clear hi)) | ((with_reducible refine gate_dst (N := 12) rfl ?_); (try (refine gate_guard (by rfl) ?_; dsimp only)); refine box_event ?hg (N := 12) ?hd (cs := #[.int .i64 0, .int .u64 0, .string (⟨#[]⟩ : ByteArray)]) (t := 32) ?hr ?_; (case hd => rfl); (case hg => rfl); (case hr => first | (go_simp; done) | (go_simp; rfl)); intro gb195 hg w27 hbox hb; have n0_ := Aside0.mk (Kd.R_below (by (with_reducible repeat (first | apply Kd.R_alloc | apply Kd.R_drewN | apply Kd.R_drew)); exact HO_6.out) hb); have n1_ := Aside0.mk (Kd.R_below (by (with_reducible repeat (first | apply Kd.R_alloc | apply Kd.R_drewN | apply Kd.R_drew)); exact HO_7.out) hb); have n2_ := Aside0.mk (Kd.R_below (Kd.R_elderB (by (with_reducible repeat (first | apply Kd.R_alloc | apply Kd.R_drewN | apply Kd.R_drew)); exact HO_9.out) gb195 (Nat.le_of_eq hg.symm)) hb); have n3_ := Aside0.mk (below_step bw hb); have n4_ := Aside0.mk (hbox); have n5_ := Aside0.mk ((g1 hg bw : w.heap.size ≤ gb195)); have n6_ := Aside0.mk ((g1 hg bw : w.heap.size ≤ gb195)); clear HO_6; clear HO_7; clear HO_9; clear HB; have HO_6 := n0_; have HO_7 := n1_; have HO_9 := n2_; have HB := n3_; have BK195 := n4_; have GW195 := n5_; have GE195 := n6_; clear n0_ n1_ n2_ n3_ n4_ n5_ n6_; clear hb hbox hg; have hcz28_0 := bc3_0 BK195.out; have hcz28_1 := bc3_1 BK195.out; have hcz28_2 := bc3_2 BK195.out; have hfz28_0 := blk_frozen BK195.out 0; have hfz28_1 := blk_frozen BK195.out 1; have hfz28_2 := blk_frozen BK195.out 2) | ((with_reducible refine gate_builtin (b := .append) (xs := #[.tmp 84, .tmp 86]) rfl ?_); (try (refine gate_guard (by rfl) ?_; dsimp only)); at_builtin; refine Kd.R_append k32 (w0 := w) w.heap.size rfl (.tmp 84) (.tmp 86) 23 32 (.agg #[(.int .i64 0), (.int .u64 0), (.string ⟨#[]⟩)]) 32 rfl Tryd.underlying23 info32 rfl (by decide) (by omega) (.slice Ao25 x9_1.length co25) x9_1 (⟨t190, t191, t192⟩ : S32) [.int .i64 t190, .int .u64 t191, .string t192] (fun k_ => k_ ≠ gb195) (fun _ => False) rfl (by first | (go_simp; done) | (go_simp; rfl)) ?aP (fun _ hk => hk.elim) ?aF ?aO ?aB ?aS ?aL ?_; (case aP => exact k32_mkM _ _ _ (⟨t190, t191, t192⟩ : S32)); (case aB => exact bw); (case aF => exact (fun k_ hk => Kd.freshB (g := gb195) (o := .cells #[.int .i64 t190, .int .u64 t191, .string t192] 32 (0, 0)) (by (with_reducible repeat (first | refine blk_drewN ?_ _ | refine blk_drew ?_ | refine blk_alloc ?_ _)); refine blk_put (cs := #[.int .i64 t190, .int .u64 t191, .string (⟨#[]⟩ : ByteArray)]) ?_ 2 _ rfl; (with_reducible repeat (first | refine blk_drewN ?_ _ | refine blk_drew ?_ | refine blk_alloc ?_ _)); refine blk_put (cs := #[.int .i64 t190, .int .u64 0, .string (⟨#[]⟩ : ByteArray)]) ?_ 1 _ rfl; (with_reducible repeat (first | refine blk_drewN ?_ _ | refine blk_drew ?_ | refine blk_alloc ?_ _)); refine blk_put (cs := #[.int .i64 0, .int .u64 0, .string (⟨#[]⟩ : ByteArray)]) ?_ 0 _ rfl; (with_reducible repeat (first | refine blk_drewN ?_ _ | refine blk_drew ?_ | refine blk_alloc ?_ _)); exact BK195.out) k_ hk)); (case aO => exact (by (with_reducible repeat (first | apply Kd.R_alloc | apply Kd.R_drewN | apply Kd.R_drew)); exact Kd.R_mono (Kd.R_far (p := ⟨gb195, 2, none⟩) (Kd.R_far (p := ⟨gb195, 1, none⟩) (Kd.R_far (p := ⟨gb195, 0, none⟩) (Kd.R_mono HO_9.out (fun k_ hk => (⟨hk, hk.2⟩ : _ ∧ k_ ≠ gb195))) (fun _ hk => hk.2) (.int .i64 t190)) (fun _ hk => hk.2) (.int .u64 t191)) (fun _ hk => hk.2) (.string t192)) (fun _ hk => hk.1.2))); (case aS => exact (below_size bw)); (case aL => have := LMc20.out; omega); intro v197 w29 ho hb hg hat; rw [← Ny196.out] at ho; have n0_ := Aside0.mk (Kd.R_over' (by (with_reducible repeat (first | apply Kd.R_alloc | apply Kd.R_drewN | apply Kd.R_drew)); exact (Kd.R_mono (Kd.R_far (p := ⟨gb195, 2, none⟩) (Kd.R_far (p := ⟨gb195, 1, none⟩) (Kd.R_far (p := ⟨gb195, 0, none⟩) (Kd.R_types HO_6.out BK195.out (by decide)) (fun _ hk => hk.2) (.int .i64 t190)) (fun _ hk => hk.2) (.int .u64 t191)) (fun _ hk => hk.2) (.string t192)) (fun _ h_ => h_.1))) (Kd.R_typed (by (with_reducible repeat (first | apply Kd.R_alloc | apply Kd.R_drewN | apply Kd.R_drew)); exact (Kd.R_mono (Kd.R_far (p := ⟨gb195, 2, none⟩) (Kd.R_far (p := ⟨gb195, 1, none⟩) (Kd.R_far (p := ⟨gb195, 0, none⟩) (Kd.R_mono HO_9.out (fun k_ hk => (⟨hk, hk.2⟩ : _ ∧ k_ ≠ gb195))) (fun _ hk => hk.2) (.int .i64 t190)) (fun _ hk => hk.2) (.int .u64 t191)) (fun _ hk => hk.2) (.string t192)) (fun _ h_ => h_.1)))) (by decide) hg); have n1_ := Aside0.mk (Kd.R_over' (by (with_reducible repeat (first | apply Kd.R_alloc | apply Kd.R_drewN | apply Kd.R_drew)); exact (Kd.R_mono (Kd.R_far (p := ⟨gb195, 2, none⟩) (Kd.R_far (p := ⟨gb195, 1, none⟩) (Kd.R_far (p := ⟨gb195, 0, none⟩) (Kd.R_types HO_7.out BK195.out (by decide)) (fun _ hk => hk.2) (.int .i64 t190)) (fun _ hk => hk.2) (.int .u64 t191)) (fun _ hk => hk.2) (.string t192)) (fun _ h_ => h_.1))) (Kd.R_typed (by (with_reducible repeat (first | apply Kd.R_alloc | apply Kd.R_drewN | apply Kd.R_drew)); exact (Kd.R_mono (Kd.R_far (p := ⟨gb195, 2, none⟩) (Kd.R_far (p := ⟨gb195, 1, none⟩) (Kd.R_far (p := ⟨gb195, 0, none⟩) (Kd.R_mono HO_9.out (fun k_ hk => (⟨hk, hk.2⟩ : _ ∧ k_ ≠ gb195))) (fun _ hk => hk.2) (.int .i64 t190)) (fun _ hk => hk.2) (.int .u64 t191)) (fun _ hk => hk.2) (.string t192)) (fun _ h_ => h_.1)))) (by decide) hg); have n2_ := Aside0.mk (blk_grown (g := gb195) (o := .cells #[.int .i64 t190, .int .u64 t191, .string t192] 32 (0, 0)) (by (with_reducible repeat (first | refine blk_drewN ?_ _ | refine blk_drew ?_ | refine blk_alloc ?_ _)); refine blk_put (cs := #[.int .i64 t190, .int .u64 t191, .string (⟨#[]⟩ : ByteArray)]) ?_ 2 _ rfl; (with_reducible repeat (first | refine blk_drewN ?_ _ | refine blk_drew ?_ | refine blk_alloc ?_ _)); refine blk_put (cs := #[.int .i64 t190, .int .u64 0, .string (⟨#[]⟩ : ByteArray)]) ?_ 1 _ rfl; (with_reducible repeat (first | refine blk_drewN ?_ _ | refine blk_drew ?_ | refine blk_alloc ?_ _)); refine blk_put (cs := #[.int .i64 0, .int .u64 0, .string (⟨#[]⟩ : ByteArray)]) ?_ 0 _ rfl; (with_reducible repeat (first | refine blk_drewN ?_ _ | refine blk_drew ?_ | refine blk_alloc ?_ _)); exact BK195.out) hg (Kd.R_away HO_9.out (fun _ hk => hk.2))); have n3_ := Aside0.mk (hb); have n4_ := Aside0.mk (ho); clear HO_6; clear HO_7; clear BK195; clear HB; clear HO_9; have HO_6 := n0_; have HO_7 := n1_; have BK195 := n2_; have HB := n3_; have HO198 := n4_; clear n0_ n1_ n2_ n3_ n4_; clear ho hb hg hat))
                              go_roundg k1
                              case measure => have := HK1.out; omega
                              case rel => exact ⟨(x1_1.extract (t193 : Int).toNat x1_1.size), (y196), (wrap64 (x10_1 + 1)), (by first | rfl | (simp; done) | (simp [*]; done)), (by first | rfl | (simp; done) | (simp [*]; done)), H', ⟨by have := HK1.out; omega⟩, ⟨by (with_reducible repeat (first | apply Kd.R_alloc | apply Kd.R_drewN | apply Kd.R_drew)); exact HO_6.out⟩, ⟨by (with_reducible repeat (first | apply Kd.R_alloc | apply Kd.R_drewN | apply Kd.R_drew)); exact HO_7.out⟩, ⟨by (with_reducible repeat (first | apply Kd.R_alloc | apply Kd.R_drewN | apply Kd.R_drew)); exact Kd.R_mono HO198.out (fun _ hk => trivial)⟩, ⟨bw⟩⟩
                            · rw [if_neg c22] at H
                              exact absurd H (by simp)
                          · rw [if_neg c21] at H
                            exact absurd H (by simp)
                        · rw [if_neg c20] at H
                          exact absurd H (by simp)
                      · rw [if_neg c19] at H
                        have c19b0 : (t194 == 0) = false := beq_eq_false_iff_ne.mpr c19
                        have c19b1 : (t194 != 0) = true := bne_iff_ne.mpr c19
                        simp only [Option.some.injEq, Prod.mk.injEq] at H
                        obtain ⟨rfl, rfl⟩ := H
                        obtain ⟨Ao30, co30, eo30⟩ := Kd.R_slice HO_6.out
                        subst eo30
                        obtain ⟨Ao31, co31, eo31⟩ := Kd.R_slice HO_7.out
                        subst eo31
                        have p189 : 0 ≤ (x10_1 : Int) := of_decide_eq_true (by first | (with_reducible assumption) | assumption)
                        have q189 : x10_1 < (t182.length : Int) := of_decide_eq_true (by first | (with_reducible assumption) | assumption)
                        obtain ⟨ad189, e189, hx189_0⟩ := Kd.at_int (Kd.R_reads' HO_6.out).2.2 x10_1 p189 q189
                        cases e189
                        replace p189 := eq_true p189
                        replace q189 := eq_true q189
                        obtain ⟨Ao32, co32, eo32⟩ := Kd.R_slice HO_9.out
                        subst eo32
                        go_wp2_with (first | ((with_reducible refine gate_callee (f := 21) rfl ?_); refine goesL_ (some 77) rfl rfl Tryd.func21 (by kernel_rfl) rfl #[.int .i64 (rd t182 x10_1), .string x1_1] rfl am ?_; (with_reducible refine (carillonref01_take.calls k1 (rd t182 x10_1) x1_1 t190 t191 t192 t193 t194 _ A18.out).mono ?_); rintro e w33 ⟨rfl, hb⟩; refine ⟨_, rfl, ?_⟩; have n0_ := Aside0.mk (Kd.R_below (by (with_reducible repeat (first | apply Kd.R_alloc | apply Kd.R_drewN | apply Kd.R_drew)); exact HO_6.out) hb); have n1_ := Aside0.mk (Kd.R_below (by (with_reducible repeat (first | apply Kd.R_alloc | apply Kd.R_drewN | apply Kd.R_drew)); exact HO_7.out) hb); have n2_ := Aside0.mk (Kd.R_below (by (with_reducible repeat (first | apply Kd.R_alloc | apply Kd.R_drewN | apply Kd.R_drew)); exact HO_9.out) hb); have n3_ := Aside0.mk (below_step bw hb); clear HO_6; clear HO_7; clear HO_9; clear HB; have HO_6 := n0_; have HO_7 := n1_; have HO_9 := n2_; have HB := n3_; clear n0_ n1_ n2_ n3_; (try clear hb); (try clear hb2); (try clear hk); (try clear hi)) | ((with_reducible refine gate_dst (N := 12) rfl ?_); (try (refine gate_guard (by rfl) ?_; dsimp only)); refine box_event ?hg (N := 12) ?hd (cs := #[.int .i64 0, .int .u64 0, .string (⟨#[]⟩ : ByteArray)]) (t := 32) ?hr ?_; (case hd => rfl); (case hg => rfl); (case hr => first | (go_simp; done) | (go_simp; rfl)); intro gb195 hg w34 hbox hb; have n0_ := Aside0.mk (Kd.R_below (by (with_reducible repeat (first | apply Kd.R_alloc | apply Kd.R_drewN | apply Kd.R_drew)); exact HO_6.out) hb); have n1_ := Aside0.mk (Kd.R_below (by (with_reducible repeat (first | apply Kd.R_alloc | apply Kd.R_drewN | apply Kd.R_drew)); exact HO_7.out) hb); have n2_ := Aside0.mk (Kd.R_below (Kd.R_elderB (by (with_reducible repeat (first | apply Kd.R_alloc | apply Kd.R_drewN | apply Kd.R_drew)); exact HO_9.out) gb195 (Nat.le_of_eq hg.symm)) hb); have n3_ := Aside0.mk (below_step bw hb); have n4_ := Aside0.mk (hbox); have n5_ := Aside0.mk ((g1 hg bw : w.heap.size ≤ gb195)); have n6_ := Aside0.mk ((g1 hg bw : w.heap.size ≤ gb195)); clear HO_6; clear HO_7; clear HO_9; clear HB; have HO_6 := n0_; have HO_7 := n1_; have HO_9 := n2_; have HB := n3_; have BK195 := n4_; have GW195 := n5_; have GE195 := n6_; clear n0_ n1_ n2_ n3_ n4_ n5_ n6_; clear hb hbox hg; have hcz35_0 := bc3_0 BK195.out; have hcz35_1 := bc3_1 BK195.out; have hcz35_2 := bc3_2 BK195.out; have hfz35_0 := blk_frozen BK195.out 0; have hfz35_1 := blk_frozen BK195.out 1; have hfz35_2 := blk_frozen BK195.out 2))
                        go_ret2
                        exact ⟨_, er, by first | exact Kd.R_nil _ _ _ _ _ | exact Kd.N_nil _ _ _ _ _ | exact Kd.V_nil _ _ _ _ _ | exact Kd.Q_nil _ _ _ _ _ | exact Kd.S_nil _ _ _ _ _, bw⟩
                  · rw [if_neg c13] at H
                    exact absurd H (by simp)
              · rw [if_neg c9] at H
                have c9b0 : ((Int.tmod (wrap64 (x10_1 - (t182.length : Int))) (t183.length : Int)) == 0) = false := beq_eq_false_iff_ne.mpr c9
                have c9b1 : ((Int.tmod (wrap64 (x10_1 - (t182.length : Int))) (t183.length : Int)) != 0) = true := bne_iff_ne.mpr c9
                by_cases c36 : 0 ≤ x10_1
                · rw [if_pos c36] at H
                  have c36b0 : decide (0 ≤ x10_1) = true := decide_eq_true c36
                  clear c36
                  by_cases c37 : (x9_1.length : Int) = 1000
                  · rw [if_pos c37] at H
                    have c37b0 : ((x9_1.length : Int) == 1000) = true := beq_iff_eq.mpr c37
                    have c37b1 : ((x9_1.length : Int) != 1000) = false := bne_eq_false_iff_eq.mpr c37
                    clear c37
                    simp only [Option.some.injEq, Prod.mk.injEq] at H
                    obtain ⟨rfl, rfl⟩ := H
                    obtain ⟨Ao38, co38, eo38⟩ := Kd.R_slice HO_6.out
                    subst eo38
                    obtain ⟨Ao39, co39, eo39⟩ := Kd.R_slice HO_7.out
                    subst eo39
                    have p199 : 0 ≤ (x10_1 : Int) := of_decide_eq_true (by first | (with_reducible assumption) | assumption)
                    have q199 : x10_1 < (t182.length : Int) := of_decide_eq_true (by first | (with_reducible assumption) | assumption)
                    obtain ⟨ad199, e199, hx199_0⟩ := Kd.at_int (Kd.R_reads' HO_6.out).2.2 x10_1 p199 q199
                    cases e199
                    replace p199 := eq_true p199
                    replace q199 := eq_true q199
                    obtain ⟨Ao40, co40, eo40⟩ := Kd.R_slice HO_9.out
                    subst eo40
                    go_wp2
                    go_ret2
                    exact ⟨_, er, by first | exact Kd.R_nil _ _ _ _ _ | exact Kd.N_nil _ _ _ _ _ | exact Kd.V_nil _ _ _ _ _ | exact Kd.Q_nil _ _ _ _ _ | exact Kd.S_nil _ _ _ _ _, bw⟩
                  · rw [if_neg c37] at H
                    have c37b0 : ((x9_1.length : Int) == 1000) = false := beq_eq_false_iff_ne.mpr c37
                    have c37b1 : ((x9_1.length : Int) != 1000) = true := bne_iff_ne.mpr c37
                    replace H := Option.bind_eq_some_iff.mp H
                    obtain ⟨⟨t200, t201, t202, t203, t204⟩, A410, H⟩ := H
                    replace H : (if t204 = 0 then (if x9_1.length < 4398046511104 then (if 0 ≤ t203 then (if t203 ≤ (x1_1.size : Int) then (carillonref01_Decode.l0 k1 (x1_1.extract (t203 : Int).toNat x1_1.size) t182 t183 (x9_1 ++ [(⟨t200, t201, t202⟩ : S32)]) (wrap64 (x10_1 + 1))) else (none)) else (none)) else (none)) else (some (([] : List (S32)), t204))) = some (r1, r2) := H
                    have A41 := Aside0.mk A410
                    clear A410
                    by_cases c42 : t204 = 0
                    · rw [if_pos c42] at H
                      have c42b0 : (t204 == 0) = true := beq_iff_eq.mpr c42
                      have c42b1 : (t204 != 0) = false := bne_eq_false_iff_eq.mpr c42
                      clear c42
                      by_cases c43 : x9_1.length < 4398046511104
                      · rw [if_pos c43] at H
                        have LMc43 := Aside0.mk c43
                        clear c43
                        obtain ⟨y206, hy206⟩ : ∃ y_ : List (S32), y_ = (x9_1 ++ [(⟨t200, t201, t202⟩ : S32)]) := ⟨_, rfl⟩
                        replace H : (if 0 ≤ t203 then (if t203 ≤ (x1_1.size : Int) then (carillonref01_Decode.l0 k1 (x1_1.extract (t203 : Int).toNat x1_1.size) t182 t183 y206 (wrap64 (x10_1 + 1))) else (none)) else (none)) = some (r1, r2) := by first | (rw [hy206]; with_reducible exact H) | (have H2_ := (Option.bind_some _ _).symm.trans H; rw [hy206]; with_reducible exact H2_) | (have H2_ := (Option.bind_some _ _).symm.trans H; with_reducible exact H2_) | with_reducible exact H | (rw [hy206]; exact H) | exact H
                        have Ny206 := Aside0.mk hy206
                        clear hy206
                        by_cases c44 : 0 ≤ t203
                        · rw [if_pos c44] at H
                          have c44b0 := eq_true c44
                          have c44b1 : decide (0 ≤ t203) = true := decide_eq_true c44
                          clear c44
                          by_cases c45 : t203 ≤ (x1_1.size : Int)
                          · rw [if_pos c45] at H
                            have c45b0 := eq_true c45
                            have c45b1 : decide (t203 ≤ (x1_1.size : Int)) = true := decide_eq_true c45
                            clear c45
                            have H' := Aside0.mk H
                            clear H
                            obtain ⟨Ao46, co46, eo46⟩ := Kd.R_slice HO_6.out
                            subst eo46
                            obtain ⟨Ao47, co47, eo47⟩ := Kd.R_slice HO_7.out
                            subst eo47
                            have p199 : 0 ≤ (x10_1 : Int) := of_decide_eq_true (by first | (with_reducible assumption) | assumption)
                            have q199 : x10_1 < (t182.length : Int) := of_decide_eq_true (by first | (with_reducible assumption) | assumption)
                            obtain ⟨ad199, e199, hx199_0⟩ := Kd.at_int (Kd.R_reads' HO_6.out).2.2 x10_1 p199 q199
                            cases e199
                            replace p199 := eq_true p199
                            replace q199 := eq_true q199
                            obtain ⟨Ao48, co48, eo48⟩ := Kd.R_slice HO_9.out
                            subst eo48
                            go_wp2_with (first | ((with_reducible refine gate_callee (f := 21) rfl ?_); refine goesL_ (some 77) rfl rfl Tryd.func21 (by kernel_rfl) rfl #[.int .i64 (rd t182 x10_1), .string x1_1] rfl am ?_; (with_reducible refine (carillonref01_take.calls k1 (rd t182 x10_1) x1_1 t200 t201 t202 t203 t204 _ A41.out).mono ?_); rintro e w49 ⟨rfl, hb⟩; refine ⟨_, rfl, ?_⟩; have n0_ := Aside0.mk (Kd.R_below (by (with_reducible repeat (first | apply Kd.R_alloc | apply Kd.R_drewN | apply Kd.R_drew)); exact HO_6.out) hb); have n1_ := Aside0.mk (Kd.R_below (by (with_reducible repeat (first | apply Kd.R_alloc | apply Kd.R_drewN | apply Kd.R_drew)); exact HO_7.out) hb); have n2_ := Aside0.mk (Kd.R_below (by (with_reducible repeat (first | apply Kd.R_alloc | apply Kd.R_drewN | apply Kd.R_drew)); exact HO_9.out) hb); have n3_ := Aside0.mk (below_step bw hb); clear HO_6; clear HO_7; clear HO_9; clear HB; have HO_6 := n0_; have HO_7 := n1_; have HO_9 := n2_; have HB := n3_; clear n0_ n1_ n2_ n3_; (try clear hb); (try clear hb2); (try clear hk); (try clear hi)) | ((with_reducible refine gate_dst (N := 12) rfl ?_); (try (refine gate_guard (by rfl) ?_; dsimp only)); refine box_event ?hg (N := 12) ?hd (cs := #[.int .i64 0, .int .u64 0, .string (⟨#[]⟩ : ByteArray)]) (t := 32) ?hr ?_; (case hd => rfl); (case hg => rfl); (case hr => first | (go_simp; done) | (go_simp; rfl)); intro gb205 hg w50 hbox hb; have n0_ := Aside0.mk (Kd.R_below (by (with_reducible repeat (first | apply Kd.R_alloc | apply Kd.R_drewN | apply Kd.R_drew)); exact HO_6.out) hb); have n1_ := Aside0.mk (Kd.R_below (by (with_reducible repeat (first | apply Kd.R_alloc | apply Kd.R_drewN | apply Kd.R_drew)); exact HO_7.out) hb); have n2_ := Aside0.mk (Kd.R_below (Kd.R_elderB (by (with_reducible repeat (first | apply Kd.R_alloc | apply Kd.R_drewN | apply Kd.R_drew)); exact HO_9.out) gb205 (Nat.le_of_eq hg.symm)) hb); have n3_ := Aside0.mk (below_step bw hb); have n4_ := Aside0.mk (hbox); have n5_ := Aside0.mk ((g1 hg bw : w.heap.size ≤ gb205)); have n6_ := Aside0.mk ((g1 hg bw : w.heap.size ≤ gb205)); clear HO_6; clear HO_7; clear HO_9; clear HB; have HO_6 := n0_; have HO_7 := n1_; have HO_9 := n2_; have HB := n3_; have BK205 := n4_; have GW205 := n5_; have GE205 := n6_; clear n0_ n1_ n2_ n3_ n4_ n5_ n6_; clear hb hbox hg; have hcz51_0 := bc3_0 BK205.out; have hcz51_1 := bc3_1 BK205.out; have hcz51_2 := bc3_2 BK205.out; have hfz51_0 := blk_frozen BK205.out 0; have hfz51_1 := blk_frozen BK205.out 1; have hfz51_2 := blk_frozen BK205.out 2) | ((with_reducible refine gate_builtin (b := .append) (xs := #[.tmp 84, .tmp 86]) rfl ?_); (try (refine gate_guard (by rfl) ?_; dsimp only)); at_builtin; refine Kd.R_append k32 (w0 := w) w.heap.size rfl (.tmp 84) (.tmp 86) 23 32 (.agg #[(.int .i64 0), (.int .u64 0), (.string ⟨#[]⟩)]) 32 rfl Tryd.underlying23 info32 rfl (by decide) (by omega) (.slice Ao48 x9_1.length co48) x9_1 (⟨t200, t201, t202⟩ : S32) [.int .i64 t200, .int .u64 t201, .string t202] (fun k_ => k_ ≠ gb205) (fun _ => False) rfl (by first | (go_simp; done) | (go_simp; rfl)) ?aP (fun _ hk => hk.elim) ?aF ?aO ?aB ?aS ?aL ?_; (case aP => exact k32_mkM _ _ _ (⟨t200, t201, t202⟩ : S32)); (case aB => exact bw); (case aF => exact (fun k_ hk => Kd.freshB (g := gb205) (o := .cells #[.int .i64 t200, .int .u64 t201, .string t202] 32 (0, 0)) (by (with_reducible repeat (first | refine blk_drewN ?_ _ | refine blk_drew ?_ | refine blk_alloc ?_ _)); refine blk_put (cs := #[.int .i64 t200, .int .u64 t201, .string (⟨#[]⟩ : ByteArray)]) ?_ 2 _ rfl; (with_reducible repeat (first | refine blk_drewN ?_ _ | refine blk_drew ?_ | refine blk_alloc ?_ _)); refine blk_put (cs := #[.int .i64 t200, .int .u64 0, .string (⟨#[]⟩ : ByteArray)]) ?_ 1 _ rfl; (with_reducible repeat (first | refine blk_drewN ?_ _ | refine blk_drew ?_ | refine blk_alloc ?_ _)); refine blk_put (cs := #[.int .i64 0, .int .u64 0, .string (⟨#[]⟩ : ByteArray)]) ?_ 0 _ rfl; (with_reducible repeat (first | refine blk_drewN ?_ _ | refine blk_drew ?_ | refine blk_alloc ?_ _)); exact BK205.out) k_ hk)); (case aO => exact (by (with_reducible repeat (first | apply Kd.R_alloc | apply Kd.R_drewN | apply Kd.R_drew)); exact Kd.R_mono (Kd.R_far (p := ⟨gb205, 2, none⟩) (Kd.R_far (p := ⟨gb205, 1, none⟩) (Kd.R_far (p := ⟨gb205, 0, none⟩) (Kd.R_mono HO_9.out (fun k_ hk => (⟨hk, hk.2⟩ : _ ∧ k_ ≠ gb205))) (fun _ hk => hk.2) (.int .i64 t200)) (fun _ hk => hk.2) (.int .u64 t201)) (fun _ hk => hk.2) (.string t202)) (fun _ hk => hk.1.2))); (case aS => exact (below_size bw)); (case aL => have := LMc43.out; omega); intro v207 w52 ho hb hg hat; rw [← Ny206.out] at ho; have n0_ := Aside0.mk (Kd.R_over' (by (with_reducible repeat (first | apply Kd.R_alloc | apply Kd.R_drewN | apply Kd.R_drew)); exact (Kd.R_mono (Kd.R_far (p := ⟨gb205, 2, none⟩) (Kd.R_far (p := ⟨gb205, 1, none⟩) (Kd.R_far (p := ⟨gb205, 0, none⟩) (Kd.R_types HO_6.out BK205.out (by decide)) (fun _ hk => hk.2) (.int .i64 t200)) (fun _ hk => hk.2) (.int .u64 t201)) (fun _ hk => hk.2) (.string t202)) (fun _ h_ => h_.1))) (Kd.R_typed (by (with_reducible repeat (first | apply Kd.R_alloc | apply Kd.R_drewN | apply Kd.R_drew)); exact (Kd.R_mono (Kd.R_far (p := ⟨gb205, 2, none⟩) (Kd.R_far (p := ⟨gb205, 1, none⟩) (Kd.R_far (p := ⟨gb205, 0, none⟩) (Kd.R_mono HO_9.out (fun k_ hk => (⟨hk, hk.2⟩ : _ ∧ k_ ≠ gb205))) (fun _ hk => hk.2) (.int .i64 t200)) (fun _ hk => hk.2) (.int .u64 t201)) (fun _ hk => hk.2) (.string t202)) (fun _ h_ => h_.1)))) (by decide) hg); have n1_ := Aside0.mk (Kd.R_over' (by (with_reducible repeat (first | apply Kd.R_alloc | apply Kd.R_drewN | apply Kd.R_drew)); exact (Kd.R_mono (Kd.R_far (p := ⟨gb205, 2, none⟩) (Kd.R_far (p := ⟨gb205, 1, none⟩) (Kd.R_far (p := ⟨gb205, 0, none⟩) (Kd.R_types HO_7.out BK205.out (by decide)) (fun _ hk => hk.2) (.int .i64 t200)) (fun _ hk => hk.2) (.int .u64 t201)) (fun _ hk => hk.2) (.string t202)) (fun _ h_ => h_.1))) (Kd.R_typed (by (with_reducible repeat (first | apply Kd.R_alloc | apply Kd.R_drewN | apply Kd.R_drew)); exact (Kd.R_mono (Kd.R_far (p := ⟨gb205, 2, none⟩) (Kd.R_far (p := ⟨gb205, 1, none⟩) (Kd.R_far (p := ⟨gb205, 0, none⟩) (Kd.R_mono HO_9.out (fun k_ hk => (⟨hk, hk.2⟩ : _ ∧ k_ ≠ gb205))) (fun _ hk => hk.2) (.int .i64 t200)) (fun _ hk => hk.2) (.int .u64 t201)) (fun _ hk => hk.2) (.string t202)) (fun _ h_ => h_.1)))) (by decide) hg); have n2_ := Aside0.mk (blk_grown (g := gb205) (o := .cells #[.int .i64 t200, .int .u64 t201, .string t202] 32 (0, 0)) (by (with_reducible repeat (first | refine blk_drewN ?_ _ | refine blk_drew ?_ | refine blk_alloc ?_ _)); refine blk_put (cs := #[.int .i64 t200, .int .u64 t201, .string (⟨#[]⟩ : ByteArray)]) ?_ 2 _ rfl; (with_reducible repeat (first | refine blk_drewN ?_ _ | refine blk_drew ?_ | refine blk_alloc ?_ _)); refine blk_put (cs := #[.int .i64 t200, .int .u64 0, .string (⟨#[]⟩ : ByteArray)]) ?_ 1 _ rfl; (with_reducible repeat (first | refine blk_drewN ?_ _ | refine blk_drew ?_ | refine blk_alloc ?_ _)); refine blk_put (cs := #[.int .i64 0, .int .u64 0, .string (⟨#[]⟩ : ByteArray)]) ?_ 0 _ rfl; (with_reducible repeat (first | refine blk_drewN ?_ _ | refine blk_drew ?_ | refine blk_alloc ?_ _)); exact BK205.out) hg (Kd.R_away HO_9.out (fun _ hk => hk.2))); have n3_ := Aside0.mk (hb); have n4_ := Aside0.mk (ho); clear HO_6; clear HO_7; clear BK205; clear HB; clear HO_9; have HO_6 := n0_; have HO_7 := n1_; have BK205 := n2_; have HB := n3_; have HO208 := n4_; clear n0_ n1_ n2_ n3_ n4_; clear ho hb hg hat))
                            go_roundg k1
                            case measure => have := HK1.out; omega
                            case rel => exact ⟨(x1_1.extract (t203 : Int).toNat x1_1.size), (y206), (wrap64 (x10_1 + 1)), (by first | rfl | (simp; done) | (simp [*]; done)), (by first | rfl | (simp; done) | (simp [*]; done)), H', ⟨by have := HK1.out; omega⟩, ⟨by (with_reducible repeat (first | apply Kd.R_alloc | apply Kd.R_drewN | apply Kd.R_drew)); exact HO_6.out⟩, ⟨by (with_reducible repeat (first | apply Kd.R_alloc | apply Kd.R_drewN | apply Kd.R_drew)); exact HO_7.out⟩, ⟨by (with_reducible repeat (first | apply Kd.R_alloc | apply Kd.R_drewN | apply Kd.R_drew)); exact Kd.R_mono HO208.out (fun _ hk => trivial)⟩, ⟨bw⟩⟩
                          · rw [if_neg c45] at H
                            exact absurd H (by simp)
                        · rw [if_neg c44] at H
                          exact absurd H (by simp)
                      · rw [if_neg c43] at H
                        exact absurd H (by simp)
                    · rw [if_neg c42] at H
                      have c42b0 : (t204 == 0) = false := beq_eq_false_iff_ne.mpr c42
                      have c42b1 : (t204 != 0) = true := bne_iff_ne.mpr c42
                      simp only [Option.some.injEq, Prod.mk.injEq] at H
                      obtain ⟨rfl, rfl⟩ := H
                      obtain ⟨Ao53, co53, eo53⟩ := Kd.R_slice HO_6.out
                      subst eo53
                      obtain ⟨Ao54, co54, eo54⟩ := Kd.R_slice HO_7.out
                      subst eo54
                      have p199 : 0 ≤ (x10_1 : Int) := of_decide_eq_true (by first | (with_reducible assumption) | assumption)
                      have q199 : x10_1 < (t182.length : Int) := of_decide_eq_true (by first | (with_reducible assumption) | assumption)
                      obtain ⟨ad199, e199, hx199_0⟩ := Kd.at_int (Kd.R_reads' HO_6.out).2.2 x10_1 p199 q199
                      cases e199
                      replace p199 := eq_true p199
                      replace q199 := eq_true q199
                      obtain ⟨Ao55, co55, eo55⟩ := Kd.R_slice HO_9.out
                      subst eo55
                      go_wp2_with (first | ((with_reducible refine gate_callee (f := 21) rfl ?_); refine goesL_ (some 77) rfl rfl Tryd.func21 (by kernel_rfl) rfl #[.int .i64 (rd t182 x10_1), .string x1_1] rfl am ?_; (with_reducible refine (carillonref01_take.calls k1 (rd t182 x10_1) x1_1 t200 t201 t202 t203 t204 _ A41.out).mono ?_); rintro e w56 ⟨rfl, hb⟩; refine ⟨_, rfl, ?_⟩; have n0_ := Aside0.mk (Kd.R_below (by (with_reducible repeat (first | apply Kd.R_alloc | apply Kd.R_drewN | apply Kd.R_drew)); exact HO_6.out) hb); have n1_ := Aside0.mk (Kd.R_below (by (with_reducible repeat (first | apply Kd.R_alloc | apply Kd.R_drewN | apply Kd.R_drew)); exact HO_7.out) hb); have n2_ := Aside0.mk (Kd.R_below (by (with_reducible repeat (first | apply Kd.R_alloc | apply Kd.R_drewN | apply Kd.R_drew)); exact HO_9.out) hb); have n3_ := Aside0.mk (below_step bw hb); clear HO_6; clear HO_7; clear HO_9; clear HB; have HO_6 := n0_; have HO_7 := n1_; have HO_9 := n2_; have HB := n3_; clear n0_ n1_ n2_ n3_; (try clear hb); (try clear hb2); (try clear hk); (try clear hi)) | ((with_reducible refine gate_dst (N := 12) rfl ?_); (try (refine gate_guard (by rfl) ?_; dsimp only)); refine box_event ?hg (N := 12) ?hd (cs := #[.int .i64 0, .int .u64 0, .string (⟨#[]⟩ : ByteArray)]) (t := 32) ?hr ?_; (case hd => rfl); (case hg => rfl); (case hr => first | (go_simp; done) | (go_simp; rfl)); intro gb205 hg w57 hbox hb; have n0_ := Aside0.mk (Kd.R_below (by (with_reducible repeat (first | apply Kd.R_alloc | apply Kd.R_drewN | apply Kd.R_drew)); exact HO_6.out) hb); have n1_ := Aside0.mk (Kd.R_below (by (with_reducible repeat (first | apply Kd.R_alloc | apply Kd.R_drewN | apply Kd.R_drew)); exact HO_7.out) hb); have n2_ := Aside0.mk (Kd.R_below (Kd.R_elderB (by (with_reducible repeat (first | apply Kd.R_alloc | apply Kd.R_drewN | apply Kd.R_drew)); exact HO_9.out) gb205 (Nat.le_of_eq hg.symm)) hb); have n3_ := Aside0.mk (below_step bw hb); have n4_ := Aside0.mk (hbox); have n5_ := Aside0.mk ((g1 hg bw : w.heap.size ≤ gb205)); have n6_ := Aside0.mk ((g1 hg bw : w.heap.size ≤ gb205)); clear HO_6; clear HO_7; clear HO_9; clear HB; have HO_6 := n0_; have HO_7 := n1_; have HO_9 := n2_; have HB := n3_; have BK205 := n4_; have GW205 := n5_; have GE205 := n6_; clear n0_ n1_ n2_ n3_ n4_ n5_ n6_; clear hb hbox hg; have hcz58_0 := bc3_0 BK205.out; have hcz58_1 := bc3_1 BK205.out; have hcz58_2 := bc3_2 BK205.out; have hfz58_0 := blk_frozen BK205.out 0; have hfz58_1 := blk_frozen BK205.out 1; have hfz58_2 := blk_frozen BK205.out 2))
                      go_ret2
                      exact ⟨_, er, by first | exact Kd.R_nil _ _ _ _ _ | exact Kd.N_nil _ _ _ _ _ | exact Kd.V_nil _ _ _ _ _ | exact Kd.Q_nil _ _ _ _ _ | exact Kd.S_nil _ _ _ _ _, bw⟩
                · rw [if_neg c36] at H
                  exact absurd H (by simp)
          · rw [if_neg c7] at H
            have c7b0 : decide ((t182.length : Int) ≤ x10_1) = false := decide_eq_false c7
            clear c7
            by_cases c59 : 0 ≤ x10_1
            · rw [if_pos c59] at H
              have c59b0 : decide (0 ≤ x10_1) = true := decide_eq_true c59
              clear c59
              by_cases c60 : (x9_1.length : Int) = 1000
              · rw [if_pos c60] at H
                have c60b0 : ((x9_1.length : Int) == 1000) = true := beq_iff_eq.mpr c60
                have c60b1 : ((x9_1.length : Int) != 1000) = false := bne_eq_false_iff_eq.mpr c60
                clear c60
                simp only [Option.some.injEq, Prod.mk.injEq] at H
                obtain ⟨rfl, rfl⟩ := H
                obtain ⟨Ao61, co61, eo61⟩ := Kd.R_slice HO_6.out
                subst eo61
                have p209 : 0 ≤ (x10_1 : Int) := of_decide_eq_true (by first | (with_reducible assumption) | assumption)
                have q209 : x10_1 < (t182.length : Int) := of_decide_eq_true (by first | (with_reducible assumption) | assumption)
                obtain ⟨ad209, e209, hx209_0⟩ := Kd.at_int (Kd.R_reads' HO_6.out).2.2 x10_1 p209 q209
                cases e209
                replace p209 := eq_true p209
                replace q209 := eq_true q209
                obtain ⟨Ao62, co62, eo62⟩ := Kd.R_slice HO_9.out
                subst eo62
                go_wp2
                go_ret2
                exact ⟨_, er, by first | exact Kd.R_nil _ _ _ _ _ | exact Kd.N_nil _ _ _ _ _ | exact Kd.V_nil _ _ _ _ _ | exact Kd.Q_nil _ _ _ _ _ | exact Kd.S_nil _ _ _ _ _, bw⟩
              · rw [if_neg c60] at H
                have c60b0 : ((x9_1.length : Int) == 1000) = false := beq_eq_false_iff_ne.mpr c60
                have c60b1 : ((x9_1.length : Int) != 1000) = true := bne_iff_ne.mpr c60
                replace H := Option.bind_eq_some_iff.mp H
                obtain ⟨⟨t210, t211, t212, t213, t214⟩, A630, H⟩ := H
                replace H : (if t214 = 0 then (if x9_1.length < 4398046511104 then (if 0 ≤ t213 then (if t213 ≤ (x1_1.size : Int) then (carillonref01_Decode.l0 k1 (x1_1.extract (t213 : Int).toNat x1_1.size) t182 t183 (x9_1 ++ [(⟨t210, t211, t212⟩ : S32)]) (wrap64 (x10_1 + 1))) else (none)) else (none)) else (none)) else (some (([] : List (S32)), t214))) = some (r1, r2) := H
                have A63 := Aside0.mk A630
                clear A630
                by_cases c64 : t214 = 0
                · rw [if_pos c64] at H
                  have c64b0 : (t214 == 0) = true := beq_iff_eq.mpr c64
                  have c64b1 : (t214 != 0) = false := bne_eq_false_iff_eq.mpr c64
                  clear c64
                  by_cases c65 : x9_1.length < 4398046511104
                  · rw [if_pos c65] at H
                    have LMc65 := Aside0.mk c65
                    clear c65
                    obtain ⟨y216, hy216⟩ : ∃ y_ : List (S32), y_ = (x9_1 ++ [(⟨t210, t211, t212⟩ : S32)]) := ⟨_, rfl⟩
                    replace H : (if 0 ≤ t213 then (if t213 ≤ (x1_1.size : Int) then (carillonref01_Decode.l0 k1 (x1_1.extract (t213 : Int).toNat x1_1.size) t182 t183 y216 (wrap64 (x10_1 + 1))) else (none)) else (none)) = some (r1, r2) := by first | (rw [hy216]; with_reducible exact H) | (have H2_ := (Option.bind_some _ _).symm.trans H; rw [hy216]; with_reducible exact H2_) | (have H2_ := (Option.bind_some _ _).symm.trans H; with_reducible exact H2_) | with_reducible exact H | (rw [hy216]; exact H) | exact H
                    have Ny216 := Aside0.mk hy216
                    clear hy216
                    by_cases c66 : 0 ≤ t213
                    · rw [if_pos c66] at H
                      have c66b0 := eq_true c66
                      have c66b1 : decide (0 ≤ t213) = true := decide_eq_true c66
                      clear c66
                      by_cases c67 : t213 ≤ (x1_1.size : Int)
                      · rw [if_pos c67] at H
                        have c67b0 := eq_true c67
                        have c67b1 : decide (t213 ≤ (x1_1.size : Int)) = true := decide_eq_true c67
                        clear c67
                        have H' := Aside0.mk H
                        clear H
                        obtain ⟨Ao68, co68, eo68⟩ := Kd.R_slice HO_6.out
                        subst eo68
                        have p209 : 0 ≤ (x10_1 : Int) := of_decide_eq_true (by first | (with_reducible assumption) | assumption)
                        have q209 : x10_1 < (t182.length : Int) := of_decide_eq_true (by first | (with_reducible assumption) | assumption)
                        obtain ⟨ad209, e209, hx209_0⟩ := Kd.at_int (Kd.R_reads' HO_6.out).2.2 x10_1 p209 q209
                        cases e209
                        replace p209 := eq_true p209
                        replace q209 := eq_true q209
                        obtain ⟨Ao69, co69, eo69⟩ := Kd.R_slice HO_9.out
                        subst eo69
                        go_wp2_with (first | ((with_reducible refine gate_callee (f := 21) rfl ?_); refine goesL_ (some 77) rfl rfl Tryd.func21 (by kernel_rfl) rfl #[.int .i64 (rd t182 x10_1), .string x1_1] rfl am ?_; (with_reducible refine (carillonref01_take.calls k1 (rd t182 x10_1) x1_1 t210 t211 t212 t213 t214 _ A63.out).mono ?_); rintro e w70 ⟨rfl, hb⟩; refine ⟨_, rfl, ?_⟩; have n0_ := Aside0.mk (Kd.R_below (by (with_reducible repeat (first | apply Kd.R_alloc | apply Kd.R_drewN | apply Kd.R_drew)); exact HO_6.out) hb); have n1_ := Aside0.mk (Kd.R_below (by (with_reducible repeat (first | apply Kd.R_alloc | apply Kd.R_drewN | apply Kd.R_drew)); exact HO_7.out) hb); have n2_ := Aside0.mk (Kd.R_below (by (with_reducible repeat (first | apply Kd.R_alloc | apply Kd.R_drewN | apply Kd.R_drew)); exact HO_9.out) hb); have n3_ := Aside0.mk (below_step bw hb); clear HO_6; clear HO_7; clear HO_9; clear HB; have HO_6 := n0_; have HO_7 := n1_; have HO_9 := n2_; have HB := n3_; clear n0_ n1_ n2_ n3_; (try clear hb); (try clear hb2); (try clear hk); (try clear hi)) | ((with_reducible refine gate_dst (N := 12) rfl ?_); (try (refine gate_guard (by rfl) ?_; dsimp only)); refine box_event ?hg (N := 12) ?hd (cs := #[.int .i64 0, .int .u64 0, .string (⟨#[]⟩ : ByteArray)]) (t := 32) ?hr ?_; (case hd => rfl); (case hg => rfl); (case hr => first | (go_simp; done) | (go_simp; rfl)); intro gb215 hg w71 hbox hb; have n0_ := Aside0.mk (Kd.R_below (by (with_reducible repeat (first | apply Kd.R_alloc | apply Kd.R_drewN | apply Kd.R_drew)); exact HO_6.out) hb); have n1_ := Aside0.mk (Kd.R_below (by (with_reducible repeat (first | apply Kd.R_alloc | apply Kd.R_drewN | apply Kd.R_drew)); exact HO_7.out) hb); have n2_ := Aside0.mk (Kd.R_below (Kd.R_elderB (by (with_reducible repeat (first | apply Kd.R_alloc | apply Kd.R_drewN | apply Kd.R_drew)); exact HO_9.out) gb215 (Nat.le_of_eq hg.symm)) hb); have n3_ := Aside0.mk (below_step bw hb); have n4_ := Aside0.mk (hbox); have n5_ := Aside0.mk ((g1 hg bw : w.heap.size ≤ gb215)); have n6_ := Aside0.mk ((g1 hg bw : w.heap.size ≤ gb215)); clear HO_6; clear HO_7; clear HO_9; clear HB; have HO_6 := n0_; have HO_7 := n1_; have HO_9 := n2_; have HB := n3_; have BK215 := n4_; have GW215 := n5_; have GE215 := n6_; clear n0_ n1_ n2_ n3_ n4_ n5_ n6_; clear hb hbox hg; have hcz72_0 := bc3_0 BK215.out; have hcz72_1 := bc3_1 BK215.out; have hcz72_2 := bc3_2 BK215.out; have hfz72_0 := blk_frozen BK215.out 0; have hfz72_1 := blk_frozen BK215.out 1; have hfz72_2 := blk_frozen BK215.out 2) | ((with_reducible refine gate_builtin (b := .append) (xs := #[.tmp 84, .tmp 86]) rfl ?_); (try (refine gate_guard (by rfl) ?_; dsimp only)); at_builtin; refine Kd.R_append k32 (w0 := w) w.heap.size rfl (.tmp 84) (.tmp 86) 23 32 (.agg #[(.int .i64 0), (.int .u64 0), (.string ⟨#[]⟩)]) 32 rfl Tryd.underlying23 info32 rfl (by decide) (by omega) (.slice Ao69 x9_1.length co69) x9_1 (⟨t210, t211, t212⟩ : S32) [.int .i64 t210, .int .u64 t211, .string t212] (fun k_ => k_ ≠ gb215) (fun _ => False) rfl (by first | (go_simp; done) | (go_simp; rfl)) ?aP (fun _ hk => hk.elim) ?aF ?aO ?aB ?aS ?aL ?_; (case aP => exact k32_mkM _ _ _ (⟨t210, t211, t212⟩ : S32)); (case aB => exact bw); (case aF => exact (fun k_ hk => Kd.freshB (g := gb215) (o := .cells #[.int .i64 t210, .int .u64 t211, .string t212] 32 (0, 0)) (by (with_reducible repeat (first | refine blk_drewN ?_ _ | refine blk_drew ?_ | refine blk_alloc ?_ _)); refine blk_put (cs := #[.int .i64 t210, .int .u64 t211, .string (⟨#[]⟩ : ByteArray)]) ?_ 2 _ rfl; (with_reducible repeat (first | refine blk_drewN ?_ _ | refine blk_drew ?_ | refine blk_alloc ?_ _)); refine blk_put (cs := #[.int .i64 t210, .int .u64 0, .string (⟨#[]⟩ : ByteArray)]) ?_ 1 _ rfl; (with_reducible repeat (first | refine blk_drewN ?_ _ | refine blk_drew ?_ | refine blk_alloc ?_ _)); refine blk_put (cs := #[.int .i64 0, .int .u64 0, .string (⟨#[]⟩ : ByteArray)]) ?_ 0 _ rfl; (with_reducible repeat (first | refine blk_drewN ?_ _ | refine blk_drew ?_ | refine blk_alloc ?_ _)); exact BK215.out) k_ hk)); (case aO => exact (by (with_reducible repeat (first | apply Kd.R_alloc | apply Kd.R_drewN | apply Kd.R_drew)); exact Kd.R_mono (Kd.R_far (p := ⟨gb215, 2, none⟩) (Kd.R_far (p := ⟨gb215, 1, none⟩) (Kd.R_far (p := ⟨gb215, 0, none⟩) (Kd.R_mono HO_9.out (fun k_ hk => (⟨hk, hk.2⟩ : _ ∧ k_ ≠ gb215))) (fun _ hk => hk.2) (.int .i64 t210)) (fun _ hk => hk.2) (.int .u64 t211)) (fun _ hk => hk.2) (.string t212)) (fun _ hk => hk.1.2))); (case aS => exact (below_size bw)); (case aL => have := LMc65.out; omega); intro v217 w73 ho hb hg hat; rw [← Ny216.out] at ho; have n0_ := Aside0.mk (Kd.R_over' (by (with_reducible repeat (first | apply Kd.R_alloc | apply Kd.R_drewN | apply Kd.R_drew)); exact (Kd.R_mono (Kd.R_far (p := ⟨gb215, 2, none⟩) (Kd.R_far (p := ⟨gb215, 1, none⟩) (Kd.R_far (p := ⟨gb215, 0, none⟩) (Kd.R_types HO_6.out BK215.out (by decide)) (fun _ hk => hk.2) (.int .i64 t210)) (fun _ hk => hk.2) (.int .u64 t211)) (fun _ hk => hk.2) (.string t212)) (fun _ h_ => h_.1))) (Kd.R_typed (by (with_reducible repeat (first | apply Kd.R_alloc | apply Kd.R_drewN | apply Kd.R_drew)); exact (Kd.R_mono (Kd.R_far (p := ⟨gb215, 2, none⟩) (Kd.R_far (p := ⟨gb215, 1, none⟩) (Kd.R_far (p := ⟨gb215, 0, none⟩) (Kd.R_mono HO_9.out (fun k_ hk => (⟨hk, hk.2⟩ : _ ∧ k_ ≠ gb215))) (fun _ hk => hk.2) (.int .i64 t210)) (fun _ hk => hk.2) (.int .u64 t211)) (fun _ hk => hk.2) (.string t212)) (fun _ h_ => h_.1)))) (by decide) hg); have n1_ := Aside0.mk (Kd.R_over' (by (with_reducible repeat (first | apply Kd.R_alloc | apply Kd.R_drewN | apply Kd.R_drew)); exact (Kd.R_mono (Kd.R_far (p := ⟨gb215, 2, none⟩) (Kd.R_far (p := ⟨gb215, 1, none⟩) (Kd.R_far (p := ⟨gb215, 0, none⟩) (Kd.R_types HO_7.out BK215.out (by decide)) (fun _ hk => hk.2) (.int .i64 t210)) (fun _ hk => hk.2) (.int .u64 t211)) (fun _ hk => hk.2) (.string t212)) (fun _ h_ => h_.1))) (Kd.R_typed (by (with_reducible repeat (first | apply Kd.R_alloc | apply Kd.R_drewN | apply Kd.R_drew)); exact (Kd.R_mono (Kd.R_far (p := ⟨gb215, 2, none⟩) (Kd.R_far (p := ⟨gb215, 1, none⟩) (Kd.R_far (p := ⟨gb215, 0, none⟩) (Kd.R_mono HO_9.out (fun k_ hk => (⟨hk, hk.2⟩ : _ ∧ k_ ≠ gb215))) (fun _ hk => hk.2) (.int .i64 t210)) (fun _ hk => hk.2) (.int .u64 t211)) (fun _ hk => hk.2) (.string t212)) (fun _ h_ => h_.1)))) (by decide) hg); have n2_ := Aside0.mk (blk_grown (g := gb215) (o := .cells #[.int .i64 t210, .int .u64 t211, .string t212] 32 (0, 0)) (by (with_reducible repeat (first | refine blk_drewN ?_ _ | refine blk_drew ?_ | refine blk_alloc ?_ _)); refine blk_put (cs := #[.int .i64 t210, .int .u64 t211, .string (⟨#[]⟩ : ByteArray)]) ?_ 2 _ rfl; (with_reducible repeat (first | refine blk_drewN ?_ _ | refine blk_drew ?_ | refine blk_alloc ?_ _)); refine blk_put (cs := #[.int .i64 t210, .int .u64 0, .string (⟨#[]⟩ : ByteArray)]) ?_ 1 _ rfl; (with_reducible repeat (first | refine blk_drewN ?_ _ | refine blk_drew ?_ | refine blk_alloc ?_ _)); refine blk_put (cs := #[.int .i64 0, .int .u64 0, .string (⟨#[]⟩ : ByteArray)]) ?_ 0 _ rfl; (with_reducible repeat (first | refine blk_drewN ?_ _ | refine blk_drew ?_ | refine blk_alloc ?_ _)); exact BK215.out) hg (Kd.R_away HO_9.out (fun _ hk => hk.2))); have n3_ := Aside0.mk (hb); have n4_ := Aside0.mk (ho); clear HO_6; clear HO_7; clear BK215; clear HB; clear HO_9; have HO_6 := n0_; have HO_7 := n1_; have BK215 := n2_; have HB := n3_; have HO218 := n4_; clear n0_ n1_ n2_ n3_ n4_; clear ho hb hg hat))
                        go_roundg k1
                        case measure => have := HK1.out; omega
                        case rel => exact ⟨(x1_1.extract (t213 : Int).toNat x1_1.size), (y216), (wrap64 (x10_1 + 1)), (by first | rfl | (simp; done) | (simp [*]; done)), (by first | rfl | (simp; done) | (simp [*]; done)), H', ⟨by have := HK1.out; omega⟩, ⟨by (with_reducible repeat (first | apply Kd.R_alloc | apply Kd.R_drewN | apply Kd.R_drew)); exact HO_6.out⟩, ⟨by (with_reducible repeat (first | apply Kd.R_alloc | apply Kd.R_drewN | apply Kd.R_drew)); exact HO_7.out⟩, ⟨by (with_reducible repeat (first | apply Kd.R_alloc | apply Kd.R_drewN | apply Kd.R_drew)); exact Kd.R_mono HO218.out (fun _ hk => trivial)⟩, ⟨bw⟩⟩
                      · rw [if_neg c67] at H
                        exact absurd H (by simp)
                    · rw [if_neg c66] at H
                      exact absurd H (by simp)
                  · rw [if_neg c65] at H
                    exact absurd H (by simp)
                · rw [if_neg c64] at H
                  have c64b0 : (t214 == 0) = false := beq_eq_false_iff_ne.mpr c64
                  have c64b1 : (t214 != 0) = true := bne_iff_ne.mpr c64
                  simp only [Option.some.injEq, Prod.mk.injEq] at H
                  obtain ⟨rfl, rfl⟩ := H
                  obtain ⟨Ao74, co74, eo74⟩ := Kd.R_slice HO_6.out
                  subst eo74
                  have p209 : 0 ≤ (x10_1 : Int) := of_decide_eq_true (by first | (with_reducible assumption) | assumption)
                  have q209 : x10_1 < (t182.length : Int) := of_decide_eq_true (by first | (with_reducible assumption) | assumption)
                  obtain ⟨ad209, e209, hx209_0⟩ := Kd.at_int (Kd.R_reads' HO_6.out).2.2 x10_1 p209 q209
                  cases e209
                  replace p209 := eq_true p209
                  replace q209 := eq_true q209
                  obtain ⟨Ao75, co75, eo75⟩ := Kd.R_slice HO_9.out
                  subst eo75
                  go_wp2_with (first | ((with_reducible refine gate_callee (f := 21) rfl ?_); refine goesL_ (some 77) rfl rfl Tryd.func21 (by kernel_rfl) rfl #[.int .i64 (rd t182 x10_1), .string x1_1] rfl am ?_; (with_reducible refine (carillonref01_take.calls k1 (rd t182 x10_1) x1_1 t210 t211 t212 t213 t214 _ A63.out).mono ?_); rintro e w76 ⟨rfl, hb⟩; refine ⟨_, rfl, ?_⟩; have n0_ := Aside0.mk (Kd.R_below (by (with_reducible repeat (first | apply Kd.R_alloc | apply Kd.R_drewN | apply Kd.R_drew)); exact HO_6.out) hb); have n1_ := Aside0.mk (Kd.R_below (by (with_reducible repeat (first | apply Kd.R_alloc | apply Kd.R_drewN | apply Kd.R_drew)); exact HO_7.out) hb); have n2_ := Aside0.mk (Kd.R_below (by (with_reducible repeat (first | apply Kd.R_alloc | apply Kd.R_drewN | apply Kd.R_drew)); exact HO_9.out) hb); have n3_ := Aside0.mk (below_step bw hb); clear HO_6; clear HO_7; clear HO_9; clear HB; have HO_6 := n0_; have HO_7 := n1_; have HO_9 := n2_; have HB := n3_; clear n0_ n1_ n2_ n3_; (try clear hb); (try clear hb2); (try clear hk); (try clear hi)) | ((with_reducible refine gate_dst (N := 12) rfl ?_); (try (refine gate_guard (by rfl) ?_; dsimp only)); refine box_event ?hg (N := 12) ?hd (cs := #[.int .i64 0, .int .u64 0, .string (⟨#[]⟩ : ByteArray)]) (t := 32) ?hr ?_; (case hd => rfl); (case hg => rfl); (case hr => first | (go_simp; done) | (go_simp; rfl)); intro gb215 hg w77 hbox hb; have n0_ := Aside0.mk (Kd.R_below (by (with_reducible repeat (first | apply Kd.R_alloc | apply Kd.R_drewN | apply Kd.R_drew)); exact HO_6.out) hb); have n1_ := Aside0.mk (Kd.R_below (by (with_reducible repeat (first | apply Kd.R_alloc | apply Kd.R_drewN | apply Kd.R_drew)); exact HO_7.out) hb); have n2_ := Aside0.mk (Kd.R_below (Kd.R_elderB (by (with_reducible repeat (first | apply Kd.R_alloc | apply Kd.R_drewN | apply Kd.R_drew)); exact HO_9.out) gb215 (Nat.le_of_eq hg.symm)) hb); have n3_ := Aside0.mk (below_step bw hb); have n4_ := Aside0.mk (hbox); have n5_ := Aside0.mk ((g1 hg bw : w.heap.size ≤ gb215)); have n6_ := Aside0.mk ((g1 hg bw : w.heap.size ≤ gb215)); clear HO_6; clear HO_7; clear HO_9; clear HB; have HO_6 := n0_; have HO_7 := n1_; have HO_9 := n2_; have HB := n3_; have BK215 := n4_; have GW215 := n5_; have GE215 := n6_; clear n0_ n1_ n2_ n3_ n4_ n5_ n6_; clear hb hbox hg; have hcz78_0 := bc3_0 BK215.out; have hcz78_1 := bc3_1 BK215.out; have hcz78_2 := bc3_2 BK215.out; have hfz78_0 := blk_frozen BK215.out 0; have hfz78_1 := blk_frozen BK215.out 1; have hfz78_2 := blk_frozen BK215.out 2))
                  go_ret2
                  exact ⟨_, er, by first | exact Kd.R_nil _ _ _ _ _ | exact Kd.N_nil _ _ _ _ _ | exact Kd.V_nil _ _ _ _ _ | exact Kd.Q_nil _ _ _ _ _ | exact Kd.S_nil _ _ _ _ _, bw⟩
            · rw [if_neg c59] at H
              exact absurd H (by simp)
        · rw [if_neg c6] at H
          have c6b0 : decide (x10_1 < (t182.length : Int)) = false := decide_eq_false c6
          clear c6
          by_cases c79 : (t183.length : Int) > 0
          · rw [if_pos c79] at H
            have c79b0 : decide (0 < (t183.length : Int)) = true := decide_eq_true c79
            have c79b1 : decide (0 < t183.length) = true := decide_eq_true (by omega)
            clear c79
            by_cases c80 : x10_1 ≥ (t182.length : Int)
            · rw [if_pos c80] at H
              have c80b0 : decide ((t182.length : Int) ≤ x10_1) = true := decide_eq_true c80
              clear c80
              by_cases c81 : (t183.length : Int) = 0
              · rw [if_pos c81] at H
                exact absurd H (by simp)
              · rw [if_neg c81] at H
                have c81b0 : ((t183.length : Int) == 0) = false := beq_eq_false_iff_ne.mpr c81
                have c81b1 : ((t183.length : Int) != 0) = true := bne_iff_ne.mpr c81
                have c81b2 : ¬ (t183 = []) := fun h_ => c81 (by rw [h_]; rfl)
                by_cases c82 : (Int.tmod (wrap64 (x10_1 - (t182.length : Int))) (t183.length : Int)) = 0
                · rw [if_pos c82] at H
                  have c82b0 : ((Int.tmod (wrap64 (x10_1 - (t182.length : Int))) (t183.length : Int)) == 0) = true := beq_iff_eq.mpr c82
                  have c82b1 : ((Int.tmod (wrap64 (x10_1 - (t182.length : Int))) (t183.length : Int)) != 0) = false := bne_eq_false_iff_eq.mpr c82
                  clear c82
                  by_cases c83 : x1_1.toList = ([] : List UInt8)
                  · rw [if_pos c83] at H
                    have c83b0 : (x1_1.toList == ([] : List UInt8)) = true := beq_iff_eq.mpr c83
                    have c83b1 : (x1_1.toList != ([] : List UInt8)) = false := bne_eq_false_iff_eq.mpr c83
                    clear c83
                    simp only [Option.some.injEq, Prod.mk.injEq] at H
                    obtain ⟨rfl, rfl⟩ := H
                    obtain ⟨Ao84, co84, eo84⟩ := Kd.R_slice HO_6.out
                    subst eo84
                    obtain ⟨Ao85, co85, eo85⟩ := Kd.R_slice HO_7.out
                    subst eo85
                    go_wp2
                    go_ret2
                    exact ⟨_, er, by (with_reducible repeat (first | apply Kd.R_alloc | apply Kd.R_drewN | apply Kd.R_drew)); exact HO_9.out, bw⟩
                  · rw [if_neg c83] at H
                    have c83b0 : (x1_1.toList == ([] : List UInt8)) = false := beq_eq_false_iff_ne.mpr c83
                    have c83b1 : (x1_1.toList != ([] : List UInt8)) = true := bne_iff_ne.mpr c83
                    obtain ⟨ji86, hji86⟩ : ∃ j_ : Int, (Int.tmod (wrap64 (x10_1 - (t182.length : Int))) (t183.length : Int)) = j_ := ⟨_, rfl⟩
                    replace H : (if 0 ≤ (ji86) then (if (ji86) < (t183.length : Int) then (if (x9_1.length : Int) = 1000 then (some (([] : List (S32)), 3)) else ((carillonref01_take.f k1 (rd t183 (ji86)) x1_1).bind fun bt220 => (if bt220.2.2.2.2 = 0 then (if x9_1.length < 4398046511104 then (if 0 ≤ bt220.2.2.2.1 then (if bt220.2.2.2.1 ≤ (x1_1.size : Int) then (carillonref01_Decode.l0 k1 (x1_1.extract (bt220.2.2.2.1 : Int).toNat x1_1.size) t182 t183 (x9_1 ++ [(⟨bt220.1, bt220.2.1, bt220.2.2.1⟩ : S32)]) (wrap64 (x10_1 + 1))) else (none)) else (none)) else (none)) else (some (([] : List (S32)), bt220.2.2.2.2))))) else (none)) else (none)) = some (r1, r2) := by first | (rw [hji86] at H; exact H) | (simp only [hji86] at H ⊢; exact H)
                    (try rw [hji86] at c82b0)
                    (try rw [hji86] at c82b1)
                    by_cases c87 : 0 ≤ (ji86)
                    · rw [if_pos c87] at H
                      have c87b0 : decide (0 ≤ (ji86)) = true := decide_eq_true c87
                      clear c87
                      by_cases c88 : (ji86) < (t183.length : Int)
                      · rw [if_pos c88] at H
                        have c88b0 : decide ((ji86) < (t183.length : Int)) = true := decide_eq_true c88
                        clear c88
                        by_cases c89 : (x9_1.length : Int) = 1000
                        · rw [if_pos c89] at H
                          have c89b0 : ((x9_1.length : Int) == 1000) = true := beq_iff_eq.mpr c89
                          have c89b1 : ((x9_1.length : Int) != 1000) = false := bne_eq_false_iff_eq.mpr c89
                          clear c89
                          simp only [Option.some.injEq, Prod.mk.injEq] at H
                          obtain ⟨rfl, rfl⟩ := H
                          obtain ⟨Ao90, co90, eo90⟩ := Kd.R_slice HO_6.out
                          subst eo90
                          obtain ⟨Ao91, co91, eo91⟩ := Kd.R_slice HO_7.out
                          subst eo91
                          have p219 : 0 ≤ ((ji86) : Int) := of_decide_eq_true (by first | (with_reducible assumption) | assumption)
                          have q219 : (ji86) < (t183.length : Int) := of_decide_eq_true (by first | (with_reducible assumption) | assumption)
                          obtain ⟨ad219, e219, hx219_0⟩ := Kd.at_int (Kd.R_reads' HO_7.out).2.2 (ji86) p219 q219
                          cases e219
                          replace p219 := eq_true p219
                          replace q219 := eq_true q219
                          obtain ⟨Ao92, co92, eo92⟩ := Kd.R_slice HO_9.out
                          subst eo92
                          go_wp2
                          go_ret2
                          exact ⟨_, by first | rfl | (simp [errW_none, errW_some] <;> rfl) | (simp only [← hji86]; first | rfl | (simp [errW_none, errW_some] <;> rfl)) | (simp [*, errW_none, errW_some] <;> first | rfl | (generalize ByteArray.toList _ = l_; cases l_ <;> rfl)), by first | exact Kd.R_nil _ _ _ _ _ | exact Kd.N_nil _ _ _ _ _ | exact Kd.V_nil _ _ _ _ _ | exact Kd.Q_nil _ _ _ _ _ | exact Kd.S_nil _ _ _ _ _, bw⟩
                        · rw [if_neg c89] at H
                          have c89b0 : ((x9_1.length : Int) == 1000) = false := beq_eq_false_iff_ne.mpr c89
                          have c89b1 : ((x9_1.length : Int) != 1000) = true := bne_iff_ne.mpr c89
                          replace H := Option.bind_eq_some_iff.mp H
                          obtain ⟨⟨t220, t221, t222, t223, t224⟩, A930, H⟩ := H
                          replace H : (if t224 = 0 then (if x9_1.length < 4398046511104 then (if 0 ≤ t223 then (if t223 ≤ (x1_1.size : Int) then (carillonref01_Decode.l0 k1 (x1_1.extract (t223 : Int).toNat x1_1.size) t182 t183 (x9_1 ++ [(⟨t220, t221, t222⟩ : S32)]) (wrap64 (x10_1 + 1))) else (none)) else (none)) else (none)) else (some (([] : List (S32)), t224))) = some (r1, r2) := H
                          have A93 := Aside0.mk A930
                          clear A930
                          by_cases c94 : t224 = 0
                          · rw [if_pos c94] at H
                            have c94b0 : (t224 == 0) = true := beq_iff_eq.mpr c94
                            have c94b1 : (t224 != 0) = false := bne_eq_false_iff_eq.mpr c94
                            clear c94
                            by_cases c95 : x9_1.length < 4398046511104
                            · rw [if_pos c95] at H
                              have LMc95 := Aside0.mk c95
                              clear c95
                              obtain ⟨y226, hy226⟩ : ∃ y_ : List (S32), y_ = (x9_1 ++ [(⟨t220, t221, t222⟩ : S32)]) := ⟨_, rfl⟩
                              replace H : (if 0 ≤ t223 then (if t223 ≤ (x1_1.size : Int) then (carillonref01_Decode.l0 k1 (x1_1.extract (t223 : Int).toNat x1_1.size) t182 t183 y226 (wrap64 (x10_1 + 1))) else (none)) else (none)) = some (r1, r2) := by first | (rw [hy226]; with_reducible exact H) | (have H2_ := (Option.bind_some _ _).symm.trans H; rw [hy226]; with_reducible exact H2_) | (have H2_ := (Option.bind_some _ _).symm.trans H; with_reducible exact H2_) | with_reducible exact H | (rw [hy226]; exact H) | exact H
                              have Ny226 := Aside0.mk hy226
                              clear hy226
                              by_cases c96 : 0 ≤ t223
                              · rw [if_pos c96] at H
                                have c96b0 := eq_true c96
                                have c96b1 : decide (0 ≤ t223) = true := decide_eq_true c96
                                clear c96
                                by_cases c97 : t223 ≤ (x1_1.size : Int)
                                · rw [if_pos c97] at H
                                  have c97b0 := eq_true c97
                                  have c97b1 : decide (t223 ≤ (x1_1.size : Int)) = true := decide_eq_true c97
                                  clear c97
                                  have H' := Aside0.mk H
                                  clear H
                                  obtain ⟨Ao98, co98, eo98⟩ := Kd.R_slice HO_6.out
                                  subst eo98
                                  obtain ⟨Ao99, co99, eo99⟩ := Kd.R_slice HO_7.out
                                  subst eo99
                                  have p219 : 0 ≤ ((ji86) : Int) := of_decide_eq_true (by first | (with_reducible assumption) | assumption)
                                  have q219 : (ji86) < (t183.length : Int) := of_decide_eq_true (by first | (with_reducible assumption) | assumption)
                                  obtain ⟨ad219, e219, hx219_0⟩ := Kd.at_int (Kd.R_reads' HO_7.out).2.2 (ji86) p219 q219
                                  cases e219
                                  replace p219 := eq_true p219
                                  replace q219 := eq_true q219
                                  obtain ⟨Ao100, co100, eo100⟩ := Kd.R_slice HO_9.out
                                  subst eo100
                                  go_wp2_with (first | ((with_reducible refine gate_callee (f := 21) rfl ?_); refine goesL_ (some 77) rfl rfl Tryd.func21 (by kernel_rfl) rfl #[.int .i64 (rd t183 (ji86)), .string x1_1] rfl (by (try simp only [List.map_toArray, List.map_cons, List.map_nil]); first | done | (simp only [hji86]; rfl) | rfl | (simp only [List.length_drop, List.length_take]; rfl)) ?_; (with_reducible refine (carillonref01_take.calls k1 (rd t183 (ji86)) x1_1 t220 t221 t222 t223 t224 _ A93.out).mono ?_); rintro e w101 ⟨rfl, hb⟩; refine ⟨_, rfl, ?_⟩; have n0_ := Aside0.mk (Kd.R_below (by (with_reducible repeat (first | apply Kd.R_alloc | apply Kd.R_drewN | apply Kd.R_drew)); exact HO_6.out) hb); have n1_ := Aside0.mk (Kd.R_below (by (with_reducible repeat (first | apply Kd.R_alloc | apply Kd.R_drewN | apply Kd.R_drew)); exact HO_7.out) hb); have n2_ := Aside0.mk (Kd.R_below (by (with_reducible repeat (first | apply Kd.R_alloc | apply Kd.R_drewN | apply Kd.R_drew)); exact HO_9.out) hb); have n3_ := Aside0.mk (below_step bw hb); clear HO_6; clear HO_7; clear HO_9; clear HB; have HO_6 := n0_; have HO_7 := n1_; have HO_9 := n2_; have HB := n3_; clear n0_ n1_ n2_ n3_; (try clear hb); (try clear hb2); (try clear hk); (try clear hi)) | ((with_reducible refine gate_dst (N := 12) rfl ?_); (try (refine gate_guard (by rfl) ?_; dsimp only)); refine box_event ?hg (N := 12) ?hd (cs := #[.int .i64 0, .int .u64 0, .string (⟨#[]⟩ : ByteArray)]) (t := 32) ?hr ?_; (case hd => rfl); (case hg => rfl); (case hr => first | (go_simp; done) | (go_simp; rfl)); intro gb225 hg w102 hbox hb; have n0_ := Aside0.mk (Kd.R_below (by (with_reducible repeat (first | apply Kd.R_alloc | apply Kd.R_drewN | apply Kd.R_drew)); exact HO_6.out) hb); have n1_ := Aside0.mk (Kd.R_below (by (with_reducible repeat (first | apply Kd.R_alloc | apply Kd.R_drewN | apply Kd.R_drew)); exact HO_7.out) hb); have n2_ := Aside0.mk (Kd.R_below (Kd.R_elderB (by (with_reducible repeat (first | apply Kd.R_alloc | apply Kd.R_drewN | apply Kd.R_drew)); exact HO_9.out) gb225 (Nat.le_of_eq hg.symm)) hb); have n3_ := Aside0.mk (below_step bw hb); have n4_ := Aside0.mk (hbox); have n5_ := Aside0.mk ((g1 hg bw : w.heap.size ≤ gb225)); have n6_ := Aside0.mk ((g1 hg bw : w.heap.size ≤ gb225)); clear HO_6; clear HO_7; clear HO_9; clear HB; have HO_6 := n0_; have HO_7 := n1_; have HO_9 := n2_; have HB := n3_; have BK225 := n4_; have GW225 := n5_; have GE225 := n6_; clear n0_ n1_ n2_ n3_ n4_ n5_ n6_; clear hb hbox hg; have hcz103_0 := bc3_0 BK225.out; have hcz103_1 := bc3_1 BK225.out; have hcz103_2 := bc3_2 BK225.out; have hfz103_0 := blk_frozen BK225.out 0; have hfz103_1 := blk_frozen BK225.out 1; have hfz103_2 := blk_frozen BK225.out 2) | ((with_reducible refine gate_builtin (b := .append) (xs := #[.tmp 84, .tmp 86]) rfl ?_); (try (refine gate_guard (by rfl) ?_; dsimp only)); at_builtin; refine Kd.R_append k32 (w0 := w) w.heap.size rfl (.tmp 84) (.tmp 86) 23 32 (.agg #[(.int .i64 0), (.int .u64 0), (.string ⟨#[]⟩)]) 32 rfl Tryd.underlying23 info32 rfl (by decide) (by omega) (.slice Ao100 x9_1.length co100) x9_1 (⟨t220, t221, t222⟩ : S32) [.int .i64 t220, .int .u64 t221, .string t222] (fun k_ => k_ ≠ gb225) (fun _ => False) rfl (by first | (go_simp; done) | (go_simp; rfl)) ?aP (fun _ hk => hk.elim) ?aF ?aO ?aB ?aS ?aL ?_; (case aP => exact k32_mkM _ _ _ (⟨t220, t221, t222⟩ : S32)); (case aB => exact bw); (case aF => exact (fun k_ hk => Kd.freshB (g := gb225) (o := .cells #[.int .i64 t220, .int .u64 t221, .string t222] 32 (0, 0)) (by (with_reducible repeat (first | refine blk_drewN ?_ _ | refine blk_drew ?_ | refine blk_alloc ?_ _)); refine blk_put (cs := #[.int .i64 t220, .int .u64 t221, .string (⟨#[]⟩ : ByteArray)]) ?_ 2 _ rfl; (with_reducible repeat (first | refine blk_drewN ?_ _ | refine blk_drew ?_ | refine blk_alloc ?_ _)); refine blk_put (cs := #[.int .i64 t220, .int .u64 0, .string (⟨#[]⟩ : ByteArray)]) ?_ 1 _ rfl; (with_reducible repeat (first | refine blk_drewN ?_ _ | refine blk_drew ?_ | refine blk_alloc ?_ _)); refine blk_put (cs := #[.int .i64 0, .int .u64 0, .string (⟨#[]⟩ : ByteArray)]) ?_ 0 _ rfl; (with_reducible repeat (first | refine blk_drewN ?_ _ | refine blk_drew ?_ | refine blk_alloc ?_ _)); exact BK225.out) k_ hk)); (case aO => exact (by (with_reducible repeat (first | apply Kd.R_alloc | apply Kd.R_drewN | apply Kd.R_drew)); exact Kd.R_mono (Kd.R_far (p := ⟨gb225, 2, none⟩) (Kd.R_far (p := ⟨gb225, 1, none⟩) (Kd.R_far (p := ⟨gb225, 0, none⟩) (Kd.R_mono HO_9.out (fun k_ hk => (⟨hk, hk.2⟩ : _ ∧ k_ ≠ gb225))) (fun _ hk => hk.2) (.int .i64 t220)) (fun _ hk => hk.2) (.int .u64 t221)) (fun _ hk => hk.2) (.string t222)) (fun _ hk => hk.1.2))); (case aS => exact (below_size bw)); (case aL => have := LMc95.out; omega); intro v227 w104 ho hb hg hat; rw [← Ny226.out] at ho; have n0_ := Aside0.mk (Kd.R_over' (by (with_reducible repeat (first | apply Kd.R_alloc | apply Kd.R_drewN | apply Kd.R_drew)); exact (Kd.R_mono (Kd.R_far (p := ⟨gb225, 2, none⟩) (Kd.R_far (p := ⟨gb225, 1, none⟩) (Kd.R_far (p := ⟨gb225, 0, none⟩) (Kd.R_types HO_6.out BK225.out (by decide)) (fun _ hk => hk.2) (.int .i64 t220)) (fun _ hk => hk.2) (.int .u64 t221)) (fun _ hk => hk.2) (.string t222)) (fun _ h_ => h_.1))) (Kd.R_typed (by (with_reducible repeat (first | apply Kd.R_alloc | apply Kd.R_drewN | apply Kd.R_drew)); exact (Kd.R_mono (Kd.R_far (p := ⟨gb225, 2, none⟩) (Kd.R_far (p := ⟨gb225, 1, none⟩) (Kd.R_far (p := ⟨gb225, 0, none⟩) (Kd.R_mono HO_9.out (fun k_ hk => (⟨hk, hk.2⟩ : _ ∧ k_ ≠ gb225))) (fun _ hk => hk.2) (.int .i64 t220)) (fun _ hk => hk.2) (.int .u64 t221)) (fun _ hk => hk.2) (.string t222)) (fun _ h_ => h_.1)))) (by decide) hg); have n1_ := Aside0.mk (Kd.R_over' (by (with_reducible repeat (first | apply Kd.R_alloc | apply Kd.R_drewN | apply Kd.R_drew)); exact (Kd.R_mono (Kd.R_far (p := ⟨gb225, 2, none⟩) (Kd.R_far (p := ⟨gb225, 1, none⟩) (Kd.R_far (p := ⟨gb225, 0, none⟩) (Kd.R_types HO_7.out BK225.out (by decide)) (fun _ hk => hk.2) (.int .i64 t220)) (fun _ hk => hk.2) (.int .u64 t221)) (fun _ hk => hk.2) (.string t222)) (fun _ h_ => h_.1))) (Kd.R_typed (by (with_reducible repeat (first | apply Kd.R_alloc | apply Kd.R_drewN | apply Kd.R_drew)); exact (Kd.R_mono (Kd.R_far (p := ⟨gb225, 2, none⟩) (Kd.R_far (p := ⟨gb225, 1, none⟩) (Kd.R_far (p := ⟨gb225, 0, none⟩) (Kd.R_mono HO_9.out (fun k_ hk => (⟨hk, hk.2⟩ : _ ∧ k_ ≠ gb225))) (fun _ hk => hk.2) (.int .i64 t220)) (fun _ hk => hk.2) (.int .u64 t221)) (fun _ hk => hk.2) (.string t222)) (fun _ h_ => h_.1)))) (by decide) hg); have n2_ := Aside0.mk (blk_grown (g := gb225) (o := .cells #[.int .i64 t220, .int .u64 t221, .string t222] 32 (0, 0)) (by (with_reducible repeat (first | refine blk_drewN ?_ _ | refine blk_drew ?_ | refine blk_alloc ?_ _)); refine blk_put (cs := #[.int .i64 t220, .int .u64 t221, .string (⟨#[]⟩ : ByteArray)]) ?_ 2 _ rfl; (with_reducible repeat (first | refine blk_drewN ?_ _ | refine blk_drew ?_ | refine blk_alloc ?_ _)); refine blk_put (cs := #[.int .i64 t220, .int .u64 0, .string (⟨#[]⟩ : ByteArray)]) ?_ 1 _ rfl; (with_reducible repeat (first | refine blk_drewN ?_ _ | refine blk_drew ?_ | refine blk_alloc ?_ _)); refine blk_put (cs := #[.int .i64 0, .int .u64 0, .string (⟨#[]⟩ : ByteArray)]) ?_ 0 _ rfl; (with_reducible repeat (first | refine blk_drewN ?_ _ | refine blk_drew ?_ | refine blk_alloc ?_ _)); exact BK225.out) hg (Kd.R_away HO_9.out (fun _ hk => hk.2))); have n3_ := Aside0.mk (hb); have n4_ := Aside0.mk (ho); clear HO_6; clear HO_7; clear BK225; clear HB; clear HO_9; have HO_6 := n0_; have HO_7 := n1_; have BK225 := n2_; have HB := n3_; have HO228 := n4_; clear n0_ n1_ n2_ n3_ n4_; clear ho hb hg hat))
                                  go_roundg k1
                                  case measure => have := HK1.out; omega
                                  case rel => (try rw [hji86]); exact ⟨(x1_1.extract (t223 : Int).toNat x1_1.size), (y226), (wrap64 (x10_1 + 1)), (by first | rfl | (simp; done) | (simp [*]; done)), (by first | rfl | (simp; done) | (simp [*]; done)), H', ⟨by have := HK1.out; omega⟩, ⟨by (with_reducible repeat (first | apply Kd.R_alloc | apply Kd.R_drewN | apply Kd.R_drew)); exact HO_6.out⟩, ⟨by (with_reducible repeat (first | apply Kd.R_alloc | apply Kd.R_drewN | apply Kd.R_drew)); exact HO_7.out⟩, ⟨by (with_reducible repeat (first | apply Kd.R_alloc | apply Kd.R_drewN | apply Kd.R_drew)); exact Kd.R_mono HO228.out (fun _ hk => trivial)⟩, ⟨bw⟩⟩
                                · rw [if_neg c97] at H
                                  exact absurd H (by simp)
                              · rw [if_neg c96] at H
                                exact absurd H (by simp)
                            · rw [if_neg c95] at H
                              exact absurd H (by simp)
                          · rw [if_neg c94] at H
                            have c94b0 : (t224 == 0) = false := beq_eq_false_iff_ne.mpr c94
                            have c94b1 : (t224 != 0) = true := bne_iff_ne.mpr c94
                            simp only [Option.some.injEq, Prod.mk.injEq] at H
                            obtain ⟨rfl, rfl⟩ := H
                            obtain ⟨Ao105, co105, eo105⟩ := Kd.R_slice HO_6.out
                            subst eo105
                            obtain ⟨Ao106, co106, eo106⟩ := Kd.R_slice HO_7.out
                            subst eo106
                            have p219 : 0 ≤ ((ji86) : Int) := of_decide_eq_true (by first | (with_reducible assumption) | assumption)
                            have q219 : (ji86) < (t183.length : Int) := of_decide_eq_true (by first | (with_reducible assumption) | assumption)
                            obtain ⟨ad219, e219, hx219_0⟩ := Kd.at_int (Kd.R_reads' HO_7.out).2.2 (ji86) p219 q219
                            cases e219
                            replace p219 := eq_true p219
                            replace q219 := eq_true q219
                            obtain ⟨Ao107, co107, eo107⟩ := Kd.R_slice HO_9.out
                            subst eo107
                            go_wp2_with (first | ((with_reducible refine gate_callee (f := 21) rfl ?_); refine goesL_ (some 77) rfl rfl Tryd.func21 (by kernel_rfl) rfl #[.int .i64 (rd t183 (ji86)), .string x1_1] rfl (by (try simp only [List.map_toArray, List.map_cons, List.map_nil]); first | done | (simp only [hji86]; rfl) | rfl | (simp only [List.length_drop, List.length_take]; rfl)) ?_; (with_reducible refine (carillonref01_take.calls k1 (rd t183 (ji86)) x1_1 t220 t221 t222 t223 t224 _ A93.out).mono ?_); rintro e w108 ⟨rfl, hb⟩; refine ⟨_, rfl, ?_⟩; have n0_ := Aside0.mk (Kd.R_below (by (with_reducible repeat (first | apply Kd.R_alloc | apply Kd.R_drewN | apply Kd.R_drew)); exact HO_6.out) hb); have n1_ := Aside0.mk (Kd.R_below (by (with_reducible repeat (first | apply Kd.R_alloc | apply Kd.R_drewN | apply Kd.R_drew)); exact HO_7.out) hb); have n2_ := Aside0.mk (Kd.R_below (by (with_reducible repeat (first | apply Kd.R_alloc | apply Kd.R_drewN | apply Kd.R_drew)); exact HO_9.out) hb); have n3_ := Aside0.mk (below_step bw hb); clear HO_6; clear HO_7; clear HO_9; clear HB; have HO_6 := n0_; have HO_7 := n1_; have HO_9 := n2_; have HB := n3_; clear n0_ n1_ n2_ n3_; (try clear hb); (try clear hb2); (try clear hk); (try clear hi)) | ((with_reducible refine gate_dst (N := 12) rfl ?_); (try (refine gate_guard (by rfl) ?_; dsimp only)); refine box_event ?hg (N := 12) ?hd (cs := #[.int .i64 0, .int .u64 0, .string (⟨#[]⟩ : ByteArray)]) (t := 32) ?hr ?_; (case hd => rfl); (case hg => rfl); (case hr => first | (go_simp; done) | (go_simp; rfl)); intro gb225 hg w109 hbox hb; have n0_ := Aside0.mk (Kd.R_below (by (with_reducible repeat (first | apply Kd.R_alloc | apply Kd.R_drewN | apply Kd.R_drew)); exact HO_6.out) hb); have n1_ := Aside0.mk (Kd.R_below (by (with_reducible repeat (first | apply Kd.R_alloc | apply Kd.R_drewN | apply Kd.R_drew)); exact HO_7.out) hb); have n2_ := Aside0.mk (Kd.R_below (Kd.R_elderB (by (with_reducible repeat (first | apply Kd.R_alloc | apply Kd.R_drewN | apply Kd.R_drew)); exact HO_9.out) gb225 (Nat.le_of_eq hg.symm)) hb); have n3_ := Aside0.mk (below_step bw hb); have n4_ := Aside0.mk (hbox); have n5_ := Aside0.mk ((g1 hg bw : w.heap.size ≤ gb225)); have n6_ := Aside0.mk ((g1 hg bw : w.heap.size ≤ gb225)); clear HO_6; clear HO_7; clear HO_9; clear HB; have HO_6 := n0_; have HO_7 := n1_; have HO_9 := n2_; have HB := n3_; have BK225 := n4_; have GW225 := n5_; have GE225 := n6_; clear n0_ n1_ n2_ n3_ n4_ n5_ n6_; clear hb hbox hg; have hcz110_0 := bc3_0 BK225.out; have hcz110_1 := bc3_1 BK225.out; have hcz110_2 := bc3_2 BK225.out; have hfz110_0 := blk_frozen BK225.out 0; have hfz110_1 := blk_frozen BK225.out 1; have hfz110_2 := blk_frozen BK225.out 2))
                            go_ret2
                            exact ⟨_, by first | rfl | (simp [errW_none, errW_some] <;> rfl) | (simp only [← hji86]; first | rfl | (simp [errW_none, errW_some] <;> rfl)) | (simp [*, errW_none, errW_some] <;> first | rfl | (generalize ByteArray.toList _ = l_; cases l_ <;> rfl)), by first | exact Kd.R_nil _ _ _ _ _ | exact Kd.N_nil _ _ _ _ _ | exact Kd.V_nil _ _ _ _ _ | exact Kd.Q_nil _ _ _ _ _ | exact Kd.S_nil _ _ _ _ _, bw⟩
                      · rw [if_neg c88] at H
                        exact absurd H (by simp)
                    · rw [if_neg c87] at H
                      exact absurd H (by simp)
                · rw [if_neg c82] at H
                  have c82b0 : ((Int.tmod (wrap64 (x10_1 - (t182.length : Int))) (t183.length : Int)) == 0) = false := beq_eq_false_iff_ne.mpr c82
                  have c82b1 : ((Int.tmod (wrap64 (x10_1 - (t182.length : Int))) (t183.length : Int)) != 0) = true := bne_iff_ne.mpr c82
                  obtain ⟨ji111, hji111⟩ : ∃ j_ : Int, (Int.tmod (wrap64 (x10_1 - (t182.length : Int))) (t183.length : Int)) = j_ := ⟨_, rfl⟩
                  replace H : (if 0 ≤ (ji111) then (if (ji111) < (t183.length : Int) then (if (x9_1.length : Int) = 1000 then (some (([] : List (S32)), 3)) else ((carillonref01_take.f k1 (rd t183 (ji111)) x1_1).bind fun bt230 => (if bt230.2.2.2.2 = 0 then (if x9_1.length < 4398046511104 then (if 0 ≤ bt230.2.2.2.1 then (if bt230.2.2.2.1 ≤ (x1_1.size : Int) then (carillonref01_Decode.l0 k1 (x1_1.extract (bt230.2.2.2.1 : Int).toNat x1_1.size) t182 t183 (x9_1 ++ [(⟨bt230.1, bt230.2.1, bt230.2.2.1⟩ : S32)]) (wrap64 (x10_1 + 1))) else (none)) else (none)) else (none)) else (some (([] : List (S32)), bt230.2.2.2.2))))) else (none)) else (none)) = some (r1, r2) := by first | (rw [hji111] at H; exact H) | (simp only [hji111] at H ⊢; exact H)
                  (try rw [hji111] at c82b0)
                  (try rw [hji111] at c82b1)
                  by_cases c112 : 0 ≤ (ji111)
                  · rw [if_pos c112] at H
                    have c112b0 : decide (0 ≤ (ji111)) = true := decide_eq_true c112
                    clear c112
                    by_cases c113 : (ji111) < (t183.length : Int)
                    · rw [if_pos c113] at H
                      have c113b0 : decide ((ji111) < (t183.length : Int)) = true := decide_eq_true c113
                      clear c113
                      by_cases c114 : (x9_1.length : Int) = 1000
                      · rw [if_pos c114] at H
                        have c114b0 : ((x9_1.length : Int) == 1000) = true := beq_iff_eq.mpr c114
                        have c114b1 : ((x9_1.length : Int) != 1000) = false := bne_eq_false_iff_eq.mpr c114
                        clear c114
                        simp only [Option.some.injEq, Prod.mk.injEq] at H
                        obtain ⟨rfl, rfl⟩ := H
                        obtain ⟨Ao115, co115, eo115⟩ := Kd.R_slice HO_6.out
                        subst eo115
                        obtain ⟨Ao116, co116, eo116⟩ := Kd.R_slice HO_7.out
                        subst eo116
                        have p229 : 0 ≤ ((ji111) : Int) := of_decide_eq_true (by first | (with_reducible assumption) | assumption)
                        have q229 : (ji111) < (t183.length : Int) := of_decide_eq_true (by first | (with_reducible assumption) | assumption)
                        obtain ⟨ad229, e229, hx229_0⟩ := Kd.at_int (Kd.R_reads' HO_7.out).2.2 (ji111) p229 q229
                        cases e229
                        replace p229 := eq_true p229
                        replace q229 := eq_true q229
                        obtain ⟨Ao117, co117, eo117⟩ := Kd.R_slice HO_9.out
                        subst eo117
                        go_wp2
                        go_ret2
                        exact ⟨_, by first | rfl | (simp [errW_none, errW_some] <;> rfl) | (simp only [← hji111]; first | rfl | (simp [errW_none, errW_some] <;> rfl)) | (simp [*, errW_none, errW_some] <;> first | rfl | (generalize ByteArray.toList _ = l_; cases l_ <;> rfl)), by first | exact Kd.R_nil _ _ _ _ _ | exact Kd.N_nil _ _ _ _ _ | exact Kd.V_nil _ _ _ _ _ | exact Kd.Q_nil _ _ _ _ _ | exact Kd.S_nil _ _ _ _ _, bw⟩
                      · rw [if_neg c114] at H
                        have c114b0 : ((x9_1.length : Int) == 1000) = false := beq_eq_false_iff_ne.mpr c114
                        have c114b1 : ((x9_1.length : Int) != 1000) = true := bne_iff_ne.mpr c114
                        replace H := Option.bind_eq_some_iff.mp H
                        obtain ⟨⟨t230, t231, t232, t233, t234⟩, A1180, H⟩ := H
                        replace H : (if t234 = 0 then (if x9_1.length < 4398046511104 then (if 0 ≤ t233 then (if t233 ≤ (x1_1.size : Int) then (carillonref01_Decode.l0 k1 (x1_1.extract (t233 : Int).toNat x1_1.size) t182 t183 (x9_1 ++ [(⟨t230, t231, t232⟩ : S32)]) (wrap64 (x10_1 + 1))) else (none)) else (none)) else (none)) else (some (([] : List (S32)), t234))) = some (r1, r2) := H
                        have A118 := Aside0.mk A1180
                        clear A1180
                        by_cases c119 : t234 = 0
                        · rw [if_pos c119] at H
                          have c119b0 : (t234 == 0) = true := beq_iff_eq.mpr c119
                          have c119b1 : (t234 != 0) = false := bne_eq_false_iff_eq.mpr c119
                          clear c119
                          by_cases c120 : x9_1.length < 4398046511104
                          · rw [if_pos c120] at H
                            have LMc120 := Aside0.mk c120
                            clear c120
                            obtain ⟨y236, hy236⟩ : ∃ y_ : List (S32), y_ = (x9_1 ++ [(⟨t230, t231, t232⟩ : S32)]) := ⟨_, rfl⟩
                            replace H : (if 0 ≤ t233 then (if t233 ≤ (x1_1.size : Int) then (carillonref01_Decode.l0 k1 (x1_1.extract (t233 : Int).toNat x1_1.size) t182 t183 y236 (wrap64 (x10_1 + 1))) else (none)) else (none)) = some (r1, r2) := by first | (rw [hy236]; with_reducible exact H) | (have H2_ := (Option.bind_some _ _).symm.trans H; rw [hy236]; with_reducible exact H2_) | (have H2_ := (Option.bind_some _ _).symm.trans H; with_reducible exact H2_) | with_reducible exact H | (rw [hy236]; exact H) | exact H
                            have Ny236 := Aside0.mk hy236
                            clear hy236
                            by_cases c121 : 0 ≤ t233
                            · rw [if_pos c121] at H
                              have c121b0 := eq_true c121
                              have c121b1 : decide (0 ≤ t233) = true := decide_eq_true c121
                              clear c121
                              by_cases c122 : t233 ≤ (x1_1.size : Int)
                              · rw [if_pos c122] at H
                                have c122b0 := eq_true c122
                                have c122b1 : decide (t233 ≤ (x1_1.size : Int)) = true := decide_eq_true c122
                                clear c122
                                have H' := Aside0.mk H
                                clear H
                                obtain ⟨Ao123, co123, eo123⟩ := Kd.R_slice HO_6.out
                                subst eo123
                                obtain ⟨Ao124, co124, eo124⟩ := Kd.R_slice HO_7.out
                                subst eo124
                                have p229 : 0 ≤ ((ji111) : Int) := of_decide_eq_true (by first | (with_reducible assumption) | assumption)
                                have q229 : (ji111) < (t183.length : Int) := of_decide_eq_true (by first | (with_reducible assumption) | assumption)
                                obtain ⟨ad229, e229, hx229_0⟩ := Kd.at_int (Kd.R_reads' HO_7.out).2.2 (ji111) p229 q229
                                cases e229
                                replace p229 := eq_true p229
                                replace q229 := eq_true q229
                                obtain ⟨Ao125, co125, eo125⟩ := Kd.R_slice HO_9.out
                                subst eo125
                                go_wp2_with (first | ((with_reducible refine gate_callee (f := 21) rfl ?_); refine goesL_ (some 77) rfl rfl Tryd.func21 (by kernel_rfl) rfl #[.int .i64 (rd t183 (ji111)), .string x1_1] rfl (by (try simp only [List.map_toArray, List.map_cons, List.map_nil]); first | done | (simp only [hji111]; rfl) | rfl | (simp only [List.length_drop, List.length_take]; rfl)) ?_; (with_reducible refine (carillonref01_take.calls k1 (rd t183 (ji111)) x1_1 t230 t231 t232 t233 t234 _ A118.out).mono ?_); rintro e w126 ⟨rfl, hb⟩; refine ⟨_, rfl, ?_⟩; have n0_ := Aside0.mk (Kd.R_below (by (with_reducible repeat (first | apply Kd.R_alloc | apply Kd.R_drewN | apply Kd.R_drew)); exact HO_6.out) hb); have n1_ := Aside0.mk (Kd.R_below (by (with_reducible repeat (first | apply Kd.R_alloc | apply Kd.R_drewN | apply Kd.R_drew)); exact HO_7.out) hb); have n2_ := Aside0.mk (Kd.R_below (by (with_reducible repeat (first | apply Kd.R_alloc | apply Kd.R_drewN | apply Kd.R_drew)); exact HO_9.out) hb); have n3_ := Aside0.mk (below_step bw hb); clear HO_6; clear HO_7; clear HO_9; clear HB; have HO_6 := n0_; have HO_7 := n1_; have HO_9 := n2_; have HB := n3_; clear n0_ n1_ n2_ n3_; (try clear hb); (try clear hb2); (try clear hk); (try clear hi)) | ((with_reducible refine gate_dst (N := 12) rfl ?_); (try (refine gate_guard (by rfl) ?_; dsimp only)); refine box_event ?hg (N := 12) ?hd (cs := #[.int .i64 0, .int .u64 0, .string (⟨#[]⟩ : ByteArray)]) (t := 32) ?hr ?_; (case hd => rfl); (case hg => rfl); (case hr => first | (go_simp; done) | (go_simp; rfl)); intro gb235 hg w127 hbox hb; have n0_ := Aside0.mk (Kd.R_below (by (with_reducible repeat (first | apply Kd.R_alloc | apply Kd.R_drewN | apply Kd.R_drew)); exact HO_6.out) hb); have n1_ := Aside0.mk (Kd.R_below (by (with_reducible repeat (first | apply Kd.R_alloc | apply Kd.R_drewN | apply Kd.R_drew)); exact HO_7.out) hb); have n2_ := Aside0.mk (Kd.R_below (Kd.R_elderB (by (with_reducible repeat (first | apply Kd.R_alloc | apply Kd.R_drewN | apply Kd.R_drew)); exact HO_9.out) gb235 (Nat.le_of_eq hg.symm)) hb); have n3_ := Aside0.mk (below_step bw hb); have n4_ := Aside0.mk (hbox); have n5_ := Aside0.mk ((g1 hg bw : w.heap.size ≤ gb235)); have n6_ := Aside0.mk ((g1 hg bw : w.heap.size ≤ gb235)); clear HO_6; clear HO_7; clear HO_9; clear HB; have HO_6 := n0_; have HO_7 := n1_; have HO_9 := n2_; have HB := n3_; have BK235 := n4_; have GW235 := n5_; have GE235 := n6_; clear n0_ n1_ n2_ n3_ n4_ n5_ n6_; clear hb hbox hg; have hcz128_0 := bc3_0 BK235.out; have hcz128_1 := bc3_1 BK235.out; have hcz128_2 := bc3_2 BK235.out; have hfz128_0 := blk_frozen BK235.out 0; have hfz128_1 := blk_frozen BK235.out 1; have hfz128_2 := blk_frozen BK235.out 2) | ((with_reducible refine gate_builtin (b := .append) (xs := #[.tmp 84, .tmp 86]) rfl ?_); (try (refine gate_guard (by rfl) ?_; dsimp only)); at_builtin; refine Kd.R_append k32 (w0 := w) w.heap.size rfl (.tmp 84) (.tmp 86) 23 32 (.agg #[(.int .i64 0), (.int .u64 0), (.string ⟨#[]⟩)]) 32 rfl Tryd.underlying23 info32 rfl (by decide) (by omega) (.slice Ao125 x9_1.length co125) x9_1 (⟨t230, t231, t232⟩ : S32) [.int .i64 t230, .int .u64 t231, .string t232] (fun k_ => k_ ≠ gb235) (fun _ => False) rfl (by first | (go_simp; done) | (go_simp; rfl)) ?aP (fun _ hk => hk.elim) ?aF ?aO ?aB ?aS ?aL ?_; (case aP => exact k32_mkM _ _ _ (⟨t230, t231, t232⟩ : S32)); (case aB => exact bw); (case aF => exact (fun k_ hk => Kd.freshB (g := gb235) (o := .cells #[.int .i64 t230, .int .u64 t231, .string t232] 32 (0, 0)) (by (with_reducible repeat (first | refine blk_drewN ?_ _ | refine blk_drew ?_ | refine blk_alloc ?_ _)); refine blk_put (cs := #[.int .i64 t230, .int .u64 t231, .string (⟨#[]⟩ : ByteArray)]) ?_ 2 _ rfl; (with_reducible repeat (first | refine blk_drewN ?_ _ | refine blk_drew ?_ | refine blk_alloc ?_ _)); refine blk_put (cs := #[.int .i64 t230, .int .u64 0, .string (⟨#[]⟩ : ByteArray)]) ?_ 1 _ rfl; (with_reducible repeat (first | refine blk_drewN ?_ _ | refine blk_drew ?_ | refine blk_alloc ?_ _)); refine blk_put (cs := #[.int .i64 0, .int .u64 0, .string (⟨#[]⟩ : ByteArray)]) ?_ 0 _ rfl; (with_reducible repeat (first | refine blk_drewN ?_ _ | refine blk_drew ?_ | refine blk_alloc ?_ _)); exact BK235.out) k_ hk)); (case aO => exact (by (with_reducible repeat (first | apply Kd.R_alloc | apply Kd.R_drewN | apply Kd.R_drew)); exact Kd.R_mono (Kd.R_far (p := ⟨gb235, 2, none⟩) (Kd.R_far (p := ⟨gb235, 1, none⟩) (Kd.R_far (p := ⟨gb235, 0, none⟩) (Kd.R_mono HO_9.out (fun k_ hk => (⟨hk, hk.2⟩ : _ ∧ k_ ≠ gb235))) (fun _ hk => hk.2) (.int .i64 t230)) (fun _ hk => hk.2) (.int .u64 t231)) (fun _ hk => hk.2) (.string t232)) (fun _ hk => hk.1.2))); (case aS => exact (below_size bw)); (case aL => have := LMc120.out; omega); intro v237 w129 ho hb hg hat; rw [← Ny236.out] at ho; have n0_ := Aside0.mk (Kd.R_over' (by (with_reducible repeat (first | apply Kd.R_alloc | apply Kd.R_drewN | apply Kd.R_drew)); exact (Kd.R_mono (Kd.R_far (p := ⟨gb235, 2, none⟩) (Kd.R_far (p := ⟨gb235, 1, none⟩) (Kd.R_far (p := ⟨gb235, 0, none⟩) (Kd.R_types HO_6.out BK235.out (by decide)) (fun _ hk => hk.2) (.int .i64 t230)) (fun _ hk => hk.2) (.int .u64 t231)) (fun _ hk => hk.2) (.string t232)) (fun _ h_ => h_.1))) (Kd.R_typed (by (with_reducible repeat (first | apply Kd.R_alloc | apply Kd.R_drewN | apply Kd.R_drew)); exact (Kd.R_mono (Kd.R_far (p := ⟨gb235, 2, none⟩) (Kd.R_far (p := ⟨gb235, 1, none⟩) (Kd.R_far (p := ⟨gb235, 0, none⟩) (Kd.R_mono HO_9.out (fun k_ hk => (⟨hk, hk.2⟩ : _ ∧ k_ ≠ gb235))) (fun _ hk => hk.2) (.int .i64 t230)) (fun _ hk => hk.2) (.int .u64 t231)) (fun _ hk => hk.2) (.string t232)) (fun _ h_ => h_.1)))) (by decide) hg); have n1_ := Aside0.mk (Kd.R_over' (by (with_reducible repeat (first | apply Kd.R_alloc | apply Kd.R_drewN | apply Kd.R_drew)); exact (Kd.R_mono (Kd.R_far (p := ⟨gb235, 2, none⟩) (Kd.R_far (p := ⟨gb235, 1, none⟩) (Kd.R_far (p := ⟨gb235, 0, none⟩) (Kd.R_types HO_7.out BK235.out (by decide)) (fun _ hk => hk.2) (.int .i64 t230)) (fun _ hk => hk.2) (.int .u64 t231)) (fun _ hk => hk.2) (.string t232)) (fun _ h_ => h_.1))) (Kd.R_typed (by (with_reducible repeat (first | apply Kd.R_alloc | apply Kd.R_drewN | apply Kd.R_drew)); exact (Kd.R_mono (Kd.R_far (p := ⟨gb235, 2, none⟩) (Kd.R_far (p := ⟨gb235, 1, none⟩) (Kd.R_far (p := ⟨gb235, 0, none⟩) (Kd.R_mono HO_9.out (fun k_ hk => (⟨hk, hk.2⟩ : _ ∧ k_ ≠ gb235))) (fun _ hk => hk.2) (.int .i64 t230)) (fun _ hk => hk.2) (.int .u64 t231)) (fun _ hk => hk.2) (.string t232)) (fun _ h_ => h_.1)))) (by decide) hg); have n2_ := Aside0.mk (blk_grown (g := gb235) (o := .cells #[.int .i64 t230, .int .u64 t231, .string t232] 32 (0, 0)) (by (with_reducible repeat (first | refine blk_drewN ?_ _ | refine blk_drew ?_ | refine blk_alloc ?_ _)); refine blk_put (cs := #[.int .i64 t230, .int .u64 t231, .string (⟨#[]⟩ : ByteArray)]) ?_ 2 _ rfl; (with_reducible repeat (first | refine blk_drewN ?_ _ | refine blk_drew ?_ | refine blk_alloc ?_ _)); refine blk_put (cs := #[.int .i64 t230, .int .u64 0, .string (⟨#[]⟩ : ByteArray)]) ?_ 1 _ rfl; (with_reducible repeat (first | refine blk_drewN ?_ _ | refine blk_drew ?_ | refine blk_alloc ?_ _)); refine blk_put (cs := #[.int .i64 0, .int .u64 0, .string (⟨#[]⟩ : ByteArray)]) ?_ 0 _ rfl; (with_reducible repeat (first | refine blk_drewN ?_ _ | refine blk_drew ?_ | refine blk_alloc ?_ _)); exact BK235.out) hg (Kd.R_away HO_9.out (fun _ hk => hk.2))); have n3_ := Aside0.mk (hb); have n4_ := Aside0.mk (ho); clear HO_6; clear HO_7; clear BK235; clear HB; clear HO_9; have HO_6 := n0_; have HO_7 := n1_; have BK235 := n2_; have HB := n3_; have HO238 := n4_; clear n0_ n1_ n2_ n3_ n4_; clear ho hb hg hat))
                                go_roundg k1
                                case measure => have := HK1.out; omega
                                case rel => (try rw [hji111]); exact ⟨(x1_1.extract (t233 : Int).toNat x1_1.size), (y236), (wrap64 (x10_1 + 1)), (by first | rfl | (simp; done) | (simp [*]; done)), (by first | rfl | (simp; done) | (simp [*]; done)), H', ⟨by have := HK1.out; omega⟩, ⟨by (with_reducible repeat (first | apply Kd.R_alloc | apply Kd.R_drewN | apply Kd.R_drew)); exact HO_6.out⟩, ⟨by (with_reducible repeat (first | apply Kd.R_alloc | apply Kd.R_drewN | apply Kd.R_drew)); exact HO_7.out⟩, ⟨by (with_reducible repeat (first | apply Kd.R_alloc | apply Kd.R_drewN | apply Kd.R_drew)); exact Kd.R_mono HO238.out (fun _ hk => trivial)⟩, ⟨bw⟩⟩
                              · rw [if_neg c122] at H
                                exact absurd H (by simp)
                            · rw [if_neg c121] at H
                              exact absurd H (by simp)
                          · rw [if_neg c120] at H
                            exact absurd H (by simp)
                        · rw [if_neg c119] at H
                          have c119b0 : (t234 == 0) = false := beq_eq_false_iff_ne.mpr c119
                          have c119b1 : (t234 != 0) = true := bne_iff_ne.mpr c119
                          simp only [Option.some.injEq, Prod.mk.injEq] at H
                          obtain ⟨rfl, rfl⟩ := H
                          obtain ⟨Ao130, co130, eo130⟩ := Kd.R_slice HO_6.out
                          subst eo130
                          obtain ⟨Ao131, co131, eo131⟩ := Kd.R_slice HO_7.out
                          subst eo131
                          have p229 : 0 ≤ ((ji111) : Int) := of_decide_eq_true (by first | (with_reducible assumption) | assumption)
                          have q229 : (ji111) < (t183.length : Int) := of_decide_eq_true (by first | (with_reducible assumption) | assumption)
                          obtain ⟨ad229, e229, hx229_0⟩ := Kd.at_int (Kd.R_reads' HO_7.out).2.2 (ji111) p229 q229
                          cases e229
                          replace p229 := eq_true p229
                          replace q229 := eq_true q229
                          obtain ⟨Ao132, co132, eo132⟩ := Kd.R_slice HO_9.out
                          subst eo132
                          go_wp2_with (first | ((with_reducible refine gate_callee (f := 21) rfl ?_); refine goesL_ (some 77) rfl rfl Tryd.func21 (by kernel_rfl) rfl #[.int .i64 (rd t183 (ji111)), .string x1_1] rfl (by (try simp only [List.map_toArray, List.map_cons, List.map_nil]); first | done | (simp only [hji111]; rfl) | rfl | (simp only [List.length_drop, List.length_take]; rfl)) ?_; (with_reducible refine (carillonref01_take.calls k1 (rd t183 (ji111)) x1_1 t230 t231 t232 t233 t234 _ A118.out).mono ?_); rintro e w133 ⟨rfl, hb⟩; refine ⟨_, rfl, ?_⟩; have n0_ := Aside0.mk (Kd.R_below (by (with_reducible repeat (first | apply Kd.R_alloc | apply Kd.R_drewN | apply Kd.R_drew)); exact HO_6.out) hb); have n1_ := Aside0.mk (Kd.R_below (by (with_reducible repeat (first | apply Kd.R_alloc | apply Kd.R_drewN | apply Kd.R_drew)); exact HO_7.out) hb); have n2_ := Aside0.mk (Kd.R_below (by (with_reducible repeat (first | apply Kd.R_alloc | apply Kd.R_drewN | apply Kd.R_drew)); exact HO_9.out) hb); have n3_ := Aside0.mk (below_step bw hb); clear HO_6; clear HO_7; clear HO_9; clear HB; have HO_6 := n0_; have HO_7 := n1_; have HO_9 := n2_; have HB := n3_; clear n0_ n1_ n2_ n3_; (try clear hb); (try clear hb2); (try clear hk); (try clear hi)) | ((with_reducible refine gate_dst (N := 12) rfl ?_); (try (refine gate_guard (by rfl) ?_; dsimp only)); refine box_event ?hg (N := 12) ?hd (cs := #[.int .i64 0, .int .u64 0, .string (⟨#[]⟩ : ByteArray)]) (t := 32) ?hr ?_; (case hd => rfl); (case hg => rfl); (case hr => first | (go_simp; done) | (go_simp; rfl)); intro gb235 hg w134 hbox hb; have n0_ := Aside0.mk (Kd.R_below (by (with_reducible repeat (first | apply Kd.R_alloc | apply Kd.R_drewN | apply Kd.R_drew)); exact HO_6.out) hb); have n1_ := Aside0.mk (Kd.R_below (by (with_reducible repeat (first | apply Kd.R_alloc | apply Kd.R_drewN | apply Kd.R_drew)); exact HO_7.out) hb); have n2_ := Aside0.mk (Kd.R_below (Kd.R_elderB (by (with_reducible repeat (first | apply Kd.R_alloc | apply Kd.R_drewN | apply Kd.R_drew)); exact HO_9.out) gb235 (Nat.le_of_eq hg.symm)) hb); have n3_ := Aside0.mk (below_step bw hb); have n4_ := Aside0.mk (hbox); have n5_ := Aside0.mk ((g1 hg bw : w.heap.size ≤ gb235)); have n6_ := Aside0.mk ((g1 hg bw : w.heap.size ≤ gb235)); clear HO_6; clear HO_7; clear HO_9; clear HB; have HO_6 := n0_; have HO_7 := n1_; have HO_9 := n2_; have HB := n3_; have BK235 := n4_; have GW235 := n5_; have GE235 := n6_; clear n0_ n1_ n2_ n3_ n4_ n5_ n6_; clear hb hbox hg; have hcz135_0 := bc3_0 BK235.out; have hcz135_1 := bc3_1 BK235.out; have hcz135_2 := bc3_2 BK235.out; have hfz135_0 := blk_frozen BK235.out 0; have hfz135_1 := blk_frozen BK235.out 1; have hfz135_2 := blk_frozen BK235.out 2))
                          go_ret2
                          exact ⟨_, by first | rfl | (simp [errW_none, errW_some] <;> rfl) | (simp only [← hji111]; first | rfl | (simp [errW_none, errW_some] <;> rfl)) | (simp [*, errW_none, errW_some] <;> first | rfl | (generalize ByteArray.toList _ = l_; cases l_ <;> rfl)), by first | exact Kd.R_nil _ _ _ _ _ | exact Kd.N_nil _ _ _ _ _ | exact Kd.V_nil _ _ _ _ _ | exact Kd.Q_nil _ _ _ _ _ | exact Kd.S_nil _ _ _ _ _, bw⟩
                    · rw [if_neg c113] at H
                      exact absurd H (by simp)
                  · rw [if_neg c112] at H
                    exact absurd H (by simp)
            · rw [if_neg c80] at H
              have c80b0 : decide ((t182.length : Int) ≤ x10_1) = false := decide_eq_false c80
              clear c80
              by_cases c136 : (t183.length : Int) = 0
              · rw [if_pos c136] at H
                exact absurd H (by simp)
              · rw [if_neg c136] at H
                have c136b0 : ((t183.length : Int) == 0) = false := beq_eq_false_iff_ne.mpr c136
                have c136b1 : ((t183.length : Int) != 0) = true := bne_iff_ne.mpr c136
                have c136b2 : ¬ (t183 = []) := fun h_ => c136 (by rw [h_]; rfl)
                obtain ⟨ji137, hji137⟩ : ∃ j_ : Int, (Int.tmod (wrap64 (x10_1 - (t182.length : Int))) (t183.length : Int)) = j_ := ⟨_, rfl⟩
                replace H : (if 0 ≤ (ji137) then (if (ji137) < (t183.length : Int) then (if (x9_1.length : Int) = 1000 then (some (([] : List (S32)), 3)) else ((carillonref01_take.f k1 (rd t183 (ji137)) x1_1).bind fun bt240 => (if bt240.2.2.2.2 = 0 then (if x9_1.length < 4398046511104 then (if 0 ≤ bt240.2.2.2.1 then (if bt240.2.2.2.1 ≤ (x1_1.size : Int) then (carillonref01_Decode.l0 k1 (x1_1.extract (bt240.2.2.2.1 : Int).toNat x1_1.size) t182 t183 (x9_1 ++ [(⟨bt240.1, bt240.2.1, bt240.2.2.1⟩ : S32)]) (wrap64 (x10_1 + 1))) else (none)) else (none)) else (none)) else (some (([] : List (S32)), bt240.2.2.2.2))))) else (none)) else (none)) = some (r1, r2) := by first | (rw [hji137] at H; exact H) | (simp only [hji137] at H ⊢; exact H)
                by_cases c138 : 0 ≤ (ji137)
                · rw [if_pos c138] at H
                  have c138b0 : decide (0 ≤ (ji137)) = true := decide_eq_true c138
                  clear c138
                  by_cases c139 : (ji137) < (t183.length : Int)
                  · rw [if_pos c139] at H
                    have c139b0 : decide ((ji137) < (t183.length : Int)) = true := decide_eq_true c139
                    clear c139
                    by_cases c140 : (x9_1.length : Int) = 1000
                    · rw [if_pos c140] at H
                      have c140b0 : ((x9_1.length : Int) == 1000) = true := beq_iff_eq.mpr c140
                      have c140b1 : ((x9_1.length : Int) != 1000) = false := bne_eq_false_iff_eq.mpr c140
                      clear c140
                      simp only [Option.some.injEq, Prod.mk.injEq] at H
                      obtain ⟨rfl, rfl⟩ := H
                      obtain ⟨Ao141, co141, eo141⟩ := Kd.R_slice HO_6.out
                      subst eo141
                      obtain ⟨Ao142, co142, eo142⟩ := Kd.R_slice HO_7.out
                      subst eo142
                      have p239 : 0 ≤ ((ji137) : Int) := of_decide_eq_true (by first | (with_reducible assumption) | assumption)
                      have q239 : (ji137) < (t183.length : Int) := of_decide_eq_true (by first | (with_reducible assumption) | assumption)
                      obtain ⟨ad239, e239, hx239_0⟩ := Kd.at_int (Kd.R_reads' HO_7.out).2.2 (ji137) p239 q239
                      cases e239
                      replace p239 := eq_true p239
                      replace q239 := eq_true q239
                      obtain ⟨Ao143, co143, eo143⟩ := Kd.R_slice HO_9.out
                      subst eo143
                      go_wp2
                      go_ret2
                      exact ⟨_, by first | rfl | (simp [errW_none, errW_some] <;> rfl) | (simp only [← hji137]; first | rfl | (simp [errW_none, errW_some] <;> rfl)) | (simp [*, errW_none, errW_some] <;> first | rfl | (generalize ByteArray.toList _ = l_; cases l_ <;> rfl)), by first | exact Kd.R_nil _ _ _ _ _ | exact Kd.N_nil _ _ _ _ _ | exact Kd.V_nil _ _ _ _ _ | exact Kd.Q_nil _ _ _ _ _ | exact Kd.S_nil _ _ _ _ _, bw⟩
                    · rw [if_neg c140] at H
                      have c140b0 : ((x9_1.length : Int) == 1000) = false := beq_eq_false_iff_ne.mpr c140
                      have c140b1 : ((x9_1.length : Int) != 1000) = true := bne_iff_ne.mpr c140
                      replace H := Option.bind_eq_some_iff.mp H
                      obtain ⟨⟨t240, t241, t242, t243, t244⟩, A1440, H⟩ := H
                      replace H : (if t244 = 0 then (if x9_1.length < 4398046511104 then (if 0 ≤ t243 then (if t243 ≤ (x1_1.size : Int) then (carillonref01_Decode.l0 k1 (x1_1.extract (t243 : Int).toNat x1_1.size) t182 t183 (x9_1 ++ [(⟨t240, t241, t242⟩ : S32)]) (wrap64 (x10_1 + 1))) else (none)) else (none)) else (none)) else (some (([] : List (S32)), t244))) = some (r1, r2) := H
                      have A144 := Aside0.mk A1440
                      clear A1440
                      by_cases c145 : t244 = 0
                      · rw [if_pos c145] at H
                        have c145b0 : (t244 == 0) = true := beq_iff_eq.mpr c145
                        have c145b1 : (t244 != 0) = false := bne_eq_false_iff_eq.mpr c145
                        clear c145
                        by_cases c146 : x9_1.length < 4398046511104
                        · rw [if_pos c146] at H
                          have LMc146 := Aside0.mk c146
                          clear c146
                          obtain ⟨y246, hy246⟩ : ∃ y_ : List (S32), y_ = (x9_1 ++ [(⟨t240, t241, t242⟩ : S32)]) := ⟨_, rfl⟩
                          replace H : (if 0 ≤ t243 then (if t243 ≤ (x1_1.size : Int) then (carillonref01_Decode.l0 k1 (x1_1.extract (t243 : Int).toNat x1_1.size) t182 t183 y246 (wrap64 (x10_1 + 1))) else (none)) else (none)) = some (r1, r2) := by first | (rw [hy246]; with_reducible exact H) | (have H2_ := (Option.bind_some _ _).symm.trans H; rw [hy246]; with_reducible exact H2_) | (have H2_ := (Option.bind_some _ _).symm.trans H; with_reducible exact H2_) | with_reducible exact H | (rw [hy246]; exact H) | exact H
                          have Ny246 := Aside0.mk hy246
                          clear hy246
                          by_cases c147 : 0 ≤ t243
                          · rw [if_pos c147] at H
                            have c147b0 := eq_true c147
                            have c147b1 : decide (0 ≤ t243) = true := decide_eq_true c147
                            clear c147
                            by_cases c148 : t243 ≤ (x1_1.size : Int)
                            · rw [if_pos c148] at H
                              have c148b0 := eq_true c148
                              have c148b1 : decide (t243 ≤ (x1_1.size : Int)) = true := decide_eq_true c148
                              clear c148
                              have H' := Aside0.mk H
                              clear H
                              obtain ⟨Ao149, co149, eo149⟩ := Kd.R_slice HO_6.out
                              subst eo149
                              obtain ⟨Ao150, co150, eo150⟩ := Kd.R_slice HO_7.out
                              subst eo150
                              have p239 : 0 ≤ ((ji137) : Int) := of_decide_eq_true (by first | (with_reducible assumption) | assumption)
                              have q239 : (ji137) < (t183.length : Int) := of_decide_eq_true (by first | (with_reducible assumption) | assumption)
                              obtain ⟨ad239, e239, hx239_0⟩ := Kd.at_int (Kd.R_reads' HO_7.out).2.2 (ji137) p239 q239
                              cases e239
                              replace p239 := eq_true p239
                              replace q239 := eq_true q239
                              obtain ⟨Ao151, co151, eo151⟩ := Kd.R_slice HO_9.out
                              subst eo151
                              go_wp2_with (first | ((with_reducible refine gate_callee (f := 21) rfl ?_); refine goesL_ (some 77) rfl rfl Tryd.func21 (by kernel_rfl) rfl #[.int .i64 (rd t183 (ji137)), .string x1_1] rfl (by (try simp only [List.map_toArray, List.map_cons, List.map_nil]); first | done | (simp only [hji137]; rfl) | rfl | (simp only [List.length_drop, List.length_take]; rfl)) ?_; (with_reducible refine (carillonref01_take.calls k1 (rd t183 (ji137)) x1_1 t240 t241 t242 t243 t244 _ A144.out).mono ?_); rintro e w152 ⟨rfl, hb⟩; refine ⟨_, rfl, ?_⟩; have n0_ := Aside0.mk (Kd.R_below (by (with_reducible repeat (first | apply Kd.R_alloc | apply Kd.R_drewN | apply Kd.R_drew)); exact HO_6.out) hb); have n1_ := Aside0.mk (Kd.R_below (by (with_reducible repeat (first | apply Kd.R_alloc | apply Kd.R_drewN | apply Kd.R_drew)); exact HO_7.out) hb); have n2_ := Aside0.mk (Kd.R_below (by (with_reducible repeat (first | apply Kd.R_alloc | apply Kd.R_drewN | apply Kd.R_drew)); exact HO_9.out) hb); have n3_ := Aside0.mk (below_step bw hb); clear HO_6; clear HO_7; clear HO_9; clear HB; have HO_6 := n0_; have HO_7 := n1_; have HO_9 := n2_; have HB := n3_; clear n0_ n1_ n2_ n3_; (try clear hb); (try clear hb2); (try clear hk); (try clear hi)) | ((with_reducible refine gate_dst (N := 12) rfl ?_); (try (refine gate_guard (by rfl) ?_; dsimp only)); refine box_event ?hg (N := 12) ?hd (cs := #[.int .i64 0, .int .u64 0, .string (⟨#[]⟩ : ByteArray)]) (t := 32) ?hr ?_; (case hd => rfl); (case hg => rfl); (case hr => first | (go_simp; done) | (go_simp; rfl)); intro gb245 hg w153 hbox hb; have n0_ := Aside0.mk (Kd.R_below (by (with_reducible repeat (first | apply Kd.R_alloc | apply Kd.R_drewN | apply Kd.R_drew)); exact HO_6.out) hb); have n1_ := Aside0.mk (Kd.R_below (by (with_reducible repeat (first | apply Kd.R_alloc | apply Kd.R_drewN | apply Kd.R_drew)); exact HO_7.out) hb); have n2_ := Aside0.mk (Kd.R_below (Kd.R_elderB (by (with_reducible repeat (first | apply Kd.R_alloc | apply Kd.R_drewN | apply Kd.R_drew)); exact HO_9.out) gb245 (Nat.le_of_eq hg.symm)) hb); have n3_ := Aside0.mk (below_step bw hb); have n4_ := Aside0.mk (hbox); have n5_ := Aside0.mk ((g1 hg bw : w.heap.size ≤ gb245)); have n6_ := Aside0.mk ((g1 hg bw : w.heap.size ≤ gb245)); clear HO_6; clear HO_7; clear HO_9; clear HB; have HO_6 := n0_; have HO_7 := n1_; have HO_9 := n2_; have HB := n3_; have BK245 := n4_; have GW245 := n5_; have GE245 := n6_; clear n0_ n1_ n2_ n3_ n4_ n5_ n6_; clear hb hbox hg; have hcz154_0 := bc3_0 BK245.out; have hcz154_1 := bc3_1 BK245.out; have hcz154_2 := bc3_2 BK245.out; have hfz154_0 := blk_frozen BK245.out 0; have hfz154_1 := blk_frozen BK245.out 1; have hfz154_2 := blk_frozen BK245.out 2) | ((with_reducible refine gate_builtin (b := .append) (xs := #[.tmp 84, .tmp 86]) rfl ?_); (try (refine gate_guard (by rfl) ?_; dsimp only)); at_builtin; refine Kd.R_append k32 (w0 := w) w.heap.size rfl (.tmp 84) (.tmp 86) 23 32 (.agg #[(.int .i64 0), (.int .u64 0), (.string ⟨#[]⟩)]) 32 rfl Tryd.underlying23 info32 rfl (by decide) (by omega) (.slice Ao151 x9_1.length co151) x9_1 (⟨t240, t241, t242⟩ : S32) [.int .i64 t240, .int .u64 t241, .string t242] (fun k_ => k_ ≠ gb245) (fun _ => False) rfl (by first | (go_simp; done) | (go_simp; rfl)) ?aP (fun _ hk => hk.elim) ?aF ?aO ?aB ?aS ?aL ?_; (case aP => exact k32_mkM _ _ _ (⟨t240, t241, t242⟩ : S32)); (case aB => exact bw); (case aF => exact (fun k_ hk => Kd.freshB (g := gb245) (o := .cells #[.int .i64 t240, .int .u64 t241, .string t242] 32 (0, 0)) (by (with_reducible repeat (first | refine blk_drewN ?_ _ | refine blk_drew ?_ | refine blk_alloc ?_ _)); refine blk_put (cs := #[.int .i64 t240, .int .u64 t241, .string (⟨#[]⟩ : ByteArray)]) ?_ 2 _ rfl; (with_reducible repeat (first | refine blk_drewN ?_ _ | refine blk_drew ?_ | refine blk_alloc ?_ _)); refine blk_put (cs := #[.int .i64 t240, .int .u64 0, .string (⟨#[]⟩ : ByteArray)]) ?_ 1 _ rfl; (with_reducible repeat (first | refine blk_drewN ?_ _ | refine blk_drew ?_ | refine blk_alloc ?_ _)); refine blk_put (cs := #[.int .i64 0, .int .u64 0, .string (⟨#[]⟩ : ByteArray)]) ?_ 0 _ rfl; (with_reducible repeat (first | refine blk_drewN ?_ _ | refine blk_drew ?_ | refine blk_alloc ?_ _)); exact BK245.out) k_ hk)); (case aO => exact (by (with_reducible repeat (first | apply Kd.R_alloc | apply Kd.R_drewN | apply Kd.R_drew)); exact Kd.R_mono (Kd.R_far (p := ⟨gb245, 2, none⟩) (Kd.R_far (p := ⟨gb245, 1, none⟩) (Kd.R_far (p := ⟨gb245, 0, none⟩) (Kd.R_mono HO_9.out (fun k_ hk => (⟨hk, hk.2⟩ : _ ∧ k_ ≠ gb245))) (fun _ hk => hk.2) (.int .i64 t240)) (fun _ hk => hk.2) (.int .u64 t241)) (fun _ hk => hk.2) (.string t242)) (fun _ hk => hk.1.2))); (case aS => exact (below_size bw)); (case aL => have := LMc146.out; omega); intro v247 w155 ho hb hg hat; rw [← Ny246.out] at ho; have n0_ := Aside0.mk (Kd.R_over' (by (with_reducible repeat (first | apply Kd.R_alloc | apply Kd.R_drewN | apply Kd.R_drew)); exact (Kd.R_mono (Kd.R_far (p := ⟨gb245, 2, none⟩) (Kd.R_far (p := ⟨gb245, 1, none⟩) (Kd.R_far (p := ⟨gb245, 0, none⟩) (Kd.R_types HO_6.out BK245.out (by decide)) (fun _ hk => hk.2) (.int .i64 t240)) (fun _ hk => hk.2) (.int .u64 t241)) (fun _ hk => hk.2) (.string t242)) (fun _ h_ => h_.1))) (Kd.R_typed (by (with_reducible repeat (first | apply Kd.R_alloc | apply Kd.R_drewN | apply Kd.R_drew)); exact (Kd.R_mono (Kd.R_far (p := ⟨gb245, 2, none⟩) (Kd.R_far (p := ⟨gb245, 1, none⟩) (Kd.R_far (p := ⟨gb245, 0, none⟩) (Kd.R_mono HO_9.out (fun k_ hk => (⟨hk, hk.2⟩ : _ ∧ k_ ≠ gb245))) (fun _ hk => hk.2) (.int .i64 t240)) (fun _ hk => hk.2) (.int .u64 t241)) (fun _ hk => hk.2) (.string t242)) (fun _ h_ => h_.1)))) (by decide) hg); have n1_ := Aside0.mk (Kd.R_over' (by (with_reducible repeat (first | apply Kd.R_alloc | apply Kd.R_drewN | apply Kd.R_drew)); exact (Kd.R_mono (Kd.R_far (p := ⟨gb245, 2, none⟩) (Kd.R_far (p := ⟨gb245, 1, none⟩) (Kd.R_far (p := ⟨gb245, 0, none⟩) (Kd.R_types HO_7.out BK245.out (by decide)) (fun _ hk => hk.2) (.int .i64 t240)) (fun _ hk => hk.2) (.int .u64 t241)) (fun _ hk => hk.2) (.string t242)) (fun _ h_ => h_.1))) (Kd.R_typed (by (with_reducible repeat (first | apply Kd.R_alloc | apply Kd.R_drewN | apply Kd.R_drew)); exact (Kd.R_mono (Kd.R_far (p := ⟨gb245, 2, none⟩) (Kd.R_far (p := ⟨gb245, 1, none⟩) (Kd.R_far (p := ⟨gb245, 0, none⟩) (Kd.R_mono HO_9.out (fun k_ hk => (⟨hk, hk.2⟩ : _ ∧ k_ ≠ gb245))) (fun _ hk => hk.2) (.int .i64 t240)) (fun _ hk => hk.2) (.int .u64 t241)) (fun _ hk => hk.2) (.string t242)) (fun _ h_ => h_.1)))) (by decide) hg); have n2_ := Aside0.mk (blk_grown (g := gb245) (o := .cells #[.int .i64 t240, .int .u64 t241, .string t242] 32 (0, 0)) (by (with_reducible repeat (first | refine blk_drewN ?_ _ | refine blk_drew ?_ | refine blk_alloc ?_ _)); refine blk_put (cs := #[.int .i64 t240, .int .u64 t241, .string (⟨#[]⟩ : ByteArray)]) ?_ 2 _ rfl; (with_reducible repeat (first | refine blk_drewN ?_ _ | refine blk_drew ?_ | refine blk_alloc ?_ _)); refine blk_put (cs := #[.int .i64 t240, .int .u64 0, .string (⟨#[]⟩ : ByteArray)]) ?_ 1 _ rfl; (with_reducible repeat (first | refine blk_drewN ?_ _ | refine blk_drew ?_ | refine blk_alloc ?_ _)); refine blk_put (cs := #[.int .i64 0, .int .u64 0, .string (⟨#[]⟩ : ByteArray)]) ?_ 0 _ rfl; (with_reducible repeat (first | refine blk_drewN ?_ _ | refine blk_drew ?_ | refine blk_alloc ?_ _)); exact BK245.out) hg (Kd.R_away HO_9.out (fun _ hk => hk.2))); have n3_ := Aside0.mk (hb); have n4_ := Aside0.mk (ho); clear HO_6; clear HO_7; clear BK245; clear HB; clear HO_9; have HO_6 := n0_; have HO_7 := n1_; have BK245 := n2_; have HB := n3_; have HO248 := n4_; clear n0_ n1_ n2_ n3_ n4_; clear ho hb hg hat))
                              go_roundg k1
                              case measure => have := HK1.out; omega
                              case rel => (try rw [hji137]); exact ⟨(x1_1.extract (t243 : Int).toNat x1_1.size), (y246), (wrap64 (x10_1 + 1)), (by first | rfl | (simp; done) | (simp [*]; done)), (by first | rfl | (simp; done) | (simp [*]; done)), H', ⟨by have := HK1.out; omega⟩, ⟨by (with_reducible repeat (first | apply Kd.R_alloc | apply Kd.R_drewN | apply Kd.R_drew)); exact HO_6.out⟩, ⟨by (with_reducible repeat (first | apply Kd.R_alloc | apply Kd.R_drewN | apply Kd.R_drew)); exact HO_7.out⟩, ⟨by (with_reducible repeat (first | apply Kd.R_alloc | apply Kd.R_drewN | apply Kd.R_drew)); exact Kd.R_mono HO248.out (fun _ hk => trivial)⟩, ⟨bw⟩⟩
                            · rw [if_neg c148] at H
                              exact absurd H (by simp)
                          · rw [if_neg c147] at H
                            exact absurd H (by simp)
                        · rw [if_neg c146] at H
                          exact absurd H (by simp)
                      · rw [if_neg c145] at H
                        have c145b0 : (t244 == 0) = false := beq_eq_false_iff_ne.mpr c145
                        have c145b1 : (t244 != 0) = true := bne_iff_ne.mpr c145
                        simp only [Option.some.injEq, Prod.mk.injEq] at H
                        obtain ⟨rfl, rfl⟩ := H
                        obtain ⟨Ao156, co156, eo156⟩ := Kd.R_slice HO_6.out
                        subst eo156
                        obtain ⟨Ao157, co157, eo157⟩ := Kd.R_slice HO_7.out
                        subst eo157
                        have p239 : 0 ≤ ((ji137) : Int) := of_decide_eq_true (by first | (with_reducible assumption) | assumption)
                        have q239 : (ji137) < (t183.length : Int) := of_decide_eq_true (by first | (with_reducible assumption) | assumption)
                        obtain ⟨ad239, e239, hx239_0⟩ := Kd.at_int (Kd.R_reads' HO_7.out).2.2 (ji137) p239 q239
                        cases e239
                        replace p239 := eq_true p239
                        replace q239 := eq_true q239
                        obtain ⟨Ao158, co158, eo158⟩ := Kd.R_slice HO_9.out
                        subst eo158
                        go_wp2_with (first | ((with_reducible refine gate_callee (f := 21) rfl ?_); refine goesL_ (some 77) rfl rfl Tryd.func21 (by kernel_rfl) rfl #[.int .i64 (rd t183 (ji137)), .string x1_1] rfl (by (try simp only [List.map_toArray, List.map_cons, List.map_nil]); first | done | (simp only [hji137]; rfl) | rfl | (simp only [List.length_drop, List.length_take]; rfl)) ?_; (with_reducible refine (carillonref01_take.calls k1 (rd t183 (ji137)) x1_1 t240 t241 t242 t243 t244 _ A144.out).mono ?_); rintro e w159 ⟨rfl, hb⟩; refine ⟨_, rfl, ?_⟩; have n0_ := Aside0.mk (Kd.R_below (by (with_reducible repeat (first | apply Kd.R_alloc | apply Kd.R_drewN | apply Kd.R_drew)); exact HO_6.out) hb); have n1_ := Aside0.mk (Kd.R_below (by (with_reducible repeat (first | apply Kd.R_alloc | apply Kd.R_drewN | apply Kd.R_drew)); exact HO_7.out) hb); have n2_ := Aside0.mk (Kd.R_below (by (with_reducible repeat (first | apply Kd.R_alloc | apply Kd.R_drewN | apply Kd.R_drew)); exact HO_9.out) hb); have n3_ := Aside0.mk (below_step bw hb); clear HO_6; clear HO_7; clear HO_9; clear HB; have HO_6 := n0_; have HO_7 := n1_; have HO_9 := n2_; have HB := n3_; clear n0_ n1_ n2_ n3_; (try clear hb); (try clear hb2); (try clear hk); (try clear hi)) | ((with_reducible refine gate_dst (N := 12) rfl ?_); (try (refine gate_guard (by rfl) ?_; dsimp only)); refine box_event ?hg (N := 12) ?hd (cs := #[.int .i64 0, .int .u64 0, .string (⟨#[]⟩ : ByteArray)]) (t := 32) ?hr ?_; (case hd => rfl); (case hg => rfl); (case hr => first | (go_simp; done) | (go_simp; rfl)); intro gb245 hg w160 hbox hb; have n0_ := Aside0.mk (Kd.R_below (by (with_reducible repeat (first | apply Kd.R_alloc | apply Kd.R_drewN | apply Kd.R_drew)); exact HO_6.out) hb); have n1_ := Aside0.mk (Kd.R_below (by (with_reducible repeat (first | apply Kd.R_alloc | apply Kd.R_drewN | apply Kd.R_drew)); exact HO_7.out) hb); have n2_ := Aside0.mk (Kd.R_below (Kd.R_elderB (by (with_reducible repeat (first | apply Kd.R_alloc | apply Kd.R_drewN | apply Kd.R_drew)); exact HO_9.out) gb245 (Nat.le_of_eq hg.symm)) hb); have n3_ := Aside0.mk (below_step bw hb); have n4_ := Aside0.mk (hbox); have n5_ := Aside0.mk ((g1 hg bw : w.heap.size ≤ gb245)); have n6_ := Aside0.mk ((g1 hg bw : w.heap.size ≤ gb245)); clear HO_6; clear HO_7; clear HO_9; clear HB; have HO_6 := n0_; have HO_7 := n1_; have HO_9 := n2_; have HB := n3_; have BK245 := n4_; have GW245 := n5_; have GE245 := n6_; clear n0_ n1_ n2_ n3_ n4_ n5_ n6_; clear hb hbox hg; have hcz161_0 := bc3_0 BK245.out; have hcz161_1 := bc3_1 BK245.out; have hcz161_2 := bc3_2 BK245.out; have hfz161_0 := blk_frozen BK245.out 0; have hfz161_1 := blk_frozen BK245.out 1; have hfz161_2 := blk_frozen BK245.out 2))
                        go_ret2
                        exact ⟨_, by first | rfl | (simp [errW_none, errW_some] <;> rfl) | (simp only [← hji137]; first | rfl | (simp [errW_none, errW_some] <;> rfl)) | (simp [*, errW_none, errW_some] <;> first | rfl | (generalize ByteArray.toList _ = l_; cases l_ <;> rfl)), by first | exact Kd.R_nil _ _ _ _ _ | exact Kd.N_nil _ _ _ _ _ | exact Kd.V_nil _ _ _ _ _ | exact Kd.Q_nil _ _ _ _ _ | exact Kd.S_nil _ _ _ _ _, bw⟩
                  · rw [if_neg c139] at H
                    exact absurd H (by simp)
                · rw [if_neg c138] at H
                  exact absurd H (by simp)
          · rw [if_neg c79] at H
            have c79b0 : decide (0 < (t183.length : Int)) = false := decide_eq_false c79
            have c79b1 : decide (0 < t183.length) = false := decide_eq_false (by omega)
            clear c79
            by_cases c162 : x1_1.toList = ([] : List UInt8)
            · rw [if_pos c162] at H
              have c162b0 : (x1_1.toList == ([] : List UInt8)) = true := beq_iff_eq.mpr c162
              have c162b1 : (x1_1.toList != ([] : List UInt8)) = false := bne_eq_false_iff_eq.mpr c162
              clear c162
              simp only [Option.some.injEq, Prod.mk.injEq] at H
              obtain ⟨rfl, rfl⟩ := H
              obtain ⟨Ao163, co163, eo163⟩ := Kd.R_slice HO_6.out
              subst eo163
              obtain ⟨Ao164, co164, eo164⟩ := Kd.R_slice HO_7.out
              subst eo164
              go_wp2
              go_ret2
              exact ⟨_, er, by (with_reducible repeat (first | apply Kd.R_alloc | apply Kd.R_drewN | apply Kd.R_drew)); exact HO_9.out, bw⟩
            · rw [if_neg c162] at H
              have c162b0 : (x1_1.toList == ([] : List UInt8)) = false := beq_eq_false_iff_ne.mpr c162
              have c162b1 : (x1_1.toList != ([] : List UInt8)) = true := bne_iff_ne.mpr c162
              simp only [Option.some.injEq, Prod.mk.injEq] at H
              obtain ⟨rfl, rfl⟩ := H
              obtain ⟨Ao165, co165, eo165⟩ := Kd.R_slice HO_6.out
              subst eo165
              obtain ⟨Ao166, co166, eo166⟩ := Kd.R_slice HO_7.out
              subst eo166
              go_wp2
              go_ret2
              exact ⟨_, er, by first | exact Kd.R_nil _ _ _ _ _ | exact Kd.N_nil _ _ _ _ _ | exact Kd.V_nil _ _ _ _ _ | exact Kd.Q_nil _ _ _ _ _ | exact Kd.S_nil _ _ _ _ _, bw⟩
  · replace c4 := Bool.eq_false_iff.mpr c4
    subst c4
    have H1 : (some (([] : List (S32)), 1)) = some (r1, r2) := by rw [if_neg (show ¬ (false = true) by decide)] at H; exact H
    clear H
    have H := H1
    clear H1
    simp only [Option.some.injEq, Prod.mk.injEq] at H
    obtain ⟨rfl, rfl⟩ := H
    go_enter Tryd.func11, Tryd.ntmps11
    go_wp2_with (first | ((with_reducible refine gate_callee (f := 20) rfl ?_); refine goesL_ (some 17) rfl rfl Tryd.func20 (by kernel_rfl) rfl #[.string a0] rfl am ?_; (with_reducible refine (carillonref01_kinds.calls k a0 t182 t183 false _ A3.out).mono ?_); rintro e w167 ⟨v185, v187, rfl, ho0, ho1, hb⟩; refine ⟨_, rfl, ?_⟩; have n0_ := Aside0.mk (Kd.R_lower ho0 (below_size bw)); have n1_ := Aside0.mk (Kd.R_lower ho1 (below_size bw)); have n2_ := Aside0.mk (below_step bw hb); clear HB; have HO186 := n0_; have HO188 := n1_; have HB := n2_; clear n0_ n1_ n2_; (try clear hb); (try clear hb2); (try clear hk); (try clear hi); (try clear ho0); (try clear ho1)))
    go_ret2
    exact ⟨_, er, by first | exact Kd.R_nil _ _ _ _ _ | exact Kd.N_nil _ _ _ _ _ | exact Kd.V_nil _ _ _ _ _ | exact Kd.Q_nil _ _ _ _ _ | exact Kd.S_nil _ _ _ _ _, bw⟩

end Go.Proofs.YthkncdnpfoccjaaDoor.P
