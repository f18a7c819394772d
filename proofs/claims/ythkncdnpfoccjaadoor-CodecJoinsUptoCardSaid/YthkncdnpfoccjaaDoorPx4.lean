-- Printed by this session's program wip/xp.py (a turned copy of the kit's printer): functions, their contracts.
import Derived.Test.YthkncdnpfoccjaaDoorPx0
import Derived.Test.YthkncdnpfoccjaaDoorPx3
namespace Go.Proofs.YthkncdnpfoccjaaDoor.P
open Go.RowKit Go.Proofs.YthkncdnpfoccjaaDoorW.PrintWords Go.Proofs.YthkncdnpfoccjaaDoorW.PrintLast Go.Proofs.YthkncdnpfoccjaaDoorW.PrintMore
attribute [local go_sem] max2_int min2_int max_two min_two max_three min_three max_four min_four   -- for this text's walks alone
set_option linter.unusedVariables false
set_option linter.unusedSimpArgs false

/-! ### codec_put: function 26 -/
def codec_put.l0 : Nat → List Int → Int → Int → Option (List Int)
  | 0, _, _, _ => none
  | k + 1, x0, x1, x7 => if x7 ≥ 0 then (if 0 ≤ x7 then (if x0.length < 140737488355328 then (codec_put.l0 k (x0 ++ [(shr .u64 x1 x7) % 256]) x1 (wrap64 (x7 - 8))) else (none)) else (none)) else (some x0)
def codec_put.f (k : Nat) (l0 : List Int) (a1 : Int) (a2 : Int) : Option (List Int) := codec_put.l0 k l0 a1 (wrap64 (8 * (wrap64 (a2 - 1))))
theorem codec_put.mono_l : ∀ k, (∀ y0 y1 y2, LeO (codec_put.l0 k y0 y1 y2) (codec_put.l0 (k + 1) y0 y1 y2))
  | 0 => fun _ _ _ r h => by simp [codec_put.l0] at h
  | k + 1 => by
    have ih0 := codec_put.mono_l k
    · intro y0 y1 y2
      unfold codec_put.l0
      repeat' first
      | (with_reducible exact ih0 _ _ _)
      | (with_reducible exact LeO.refl _)
      | (with_reducible exact LeO.none _)
      | (with_reducible refine LeO.ite ?_ ?_)
      | (with_reducible refine LeO.bind ?_ (fun _ => ?_))
      | exact ih0 _ _ _
      | exact LeO.none _
      | refine LeO.ite ?_ ?_
      | refine LeO.bind ?_ (fun _ => ?_)
theorem codec_put.mono : ∀ a0 a1 a2 k, LeO (codec_put.f k a0 a1 a2) (codec_put.f (k + 1) a0 a1 a2) := by
  intro a0 a1 a2 k
  have ih0 := codec_put.mono_l k
  unfold codec_put.f
  repeat' first
      | (with_reducible exact ih0 _ _ _)
      | (with_reducible exact LeO.refl _)
      | (with_reducible exact LeO.none _)
      | (with_reducible refine LeO.ite ?_ ?_)
      | (with_reducible refine LeO.bind ?_ (fun _ => ?_))
      | exact ih0 _ _ _
      | exact LeO.none _
      | refine LeO.ite ?_ ?_
      | refine LeO.bind ?_ (fun _ => ?_)
set_option maxHeartbeats 8000000 in
set_option maxRecDepth 100000 in
theorem codec_put.calls (k : Nat) (P0_ : Nat → Prop) (u9000_ : Value) (l0 : List Int) (a1 : Int) (a2 : Int) (r : List Int) (w0 w : World) (hB : Below w0.heap.size w0 w) (ho0 : Kd.R (Kd.int .u8) 5 w w0.heap.size P0_ u9000_ l0) (h : codec_put.f k l0 a1 a2 = some r) :
    Calls Tryd.prog 26 #[u9000_, .int .u64 a1, .int .i64 a2] w fun e w' => ∃ v0_ : Value, e = .returned (v0_) ∧ Kd.R (Kd.int .u8) 5 w' w0.heap.size (fun k_ => (P0_ k_ ∨ w.heap.size ≤ k_)) v0_ r ∧ Below w0.heap.size w0 w' ∧ Kept w w' (fun k_ => P0_ k_) := by
  have HO0 := Aside0.mk (show Kd.R (Kd.int .u8) 5 w w0.heap.size (fun k_ => (P0_ k_ ∨ w.heap.size ≤ k_)) u9000_ l0 from Kd.R_mono ho0 (fun k_ hk => (.inl hk)))
  have HK := Aside0.mk (Kept.refl w (fun k_ => P0_ k_))
  have HW0 := Aside0.mk hB.size
  have HB := Aside0.mk hB
  clear hB
  have H : (codec_put.l0 k l0 a1 (wrap64 (8 * (wrap64 (a2 - 1))))) = some r := h
  clear h
  have H' := Aside0.mk H
  clear H
  go_enter Tryd.func26, Tryd.ntmps26
  go_wp2
  go_loopg [0, 7] k (fun kq v0 v7 w' => ∃ (x0_1 : List Int) (x7_1 : Int), v7 = .int .i64 x7_1 ∧ Aside0 (codec_put.l0 kq x0_1 a1 x7_1 = some r) ∧ Aside0 (kq ≤ k) ∧ Aside0 (Kd.R (Kd.int .u8) 5 w' w0.heap.size (fun k_ => (P0_ k_ ∨ w.heap.size ≤ k_)) v0 x0_1) ∧ Aside0 (Kept w w' (fun k_ => P0_ k_)) ∧ Aside0 (Below w0.heap.size w0 w'))
  case atStart => exact ⟨(l0), (wrap64 (8 * (wrap64 (a2 - 1)))), (by first | rfl | (simp; done) | (simp [*]; done)), H', ⟨Nat.le_refl _⟩, ⟨by (with_reducible repeat (first | apply Kd.R_alloc | apply Kd.R_drewN | apply Kd.R_drew)); exact HO0.out⟩, ⟨by repeat (first | (with_reducible first | exact HK.out | apply Kept.alloc | apply Kept.drewN | apply Kept.drew) | exact HK.out)⟩, ⟨bw⟩⟩
  case round =>
    clear H'
    try clear c2
    try clear p2
    obtain ⟨x0_1, x7_1, rfl, HA, HK1, HO_0, HK, HB⟩ := hrel
    cases gk with
    | zero => exact absurd HA.out (by simp [codec_put.l0])
    | succ k1 =>
      have H := HA.out
      clear HA
      simp only [codec_put.l0] at H
      by_cases c4 : x7_1 ≥ 0
      · rw [if_pos c4] at H
        have c4b0 : decide (0 ≤ x7_1) = true := decide_eq_true c4
        clear c4
        by_cases c5 : 0 ≤ x7_1
        · rw [if_pos c5] at H
          have c5b0 := eq_true c5
          have c5b1 : decide (0 ≤ x7_1) = true := decide_eq_true c5
          clear c5
          obtain ⟨ji6, hji6⟩ : ∃ j_ : Int, (shr .u64 a1 x7_1) = j_ := ⟨_, rfl⟩
          replace H : (if x0_1.length < 140737488355328 then (codec_put.l0 k1 (x0_1 ++ [(ji6) % 256]) a1 (wrap64 (x7_1 - 8))) else (none)) = some r := by first | (rw [hji6] at H; exact H) | (simp only [hji6] at H ⊢; exact H)
          have hji6_ : (a1 / 2 ^ min x7_1.toNat 64) = ji6 := hji6
          have hji6z : x7_1 ≤ 64 → (a1 / 2 ^ x7_1.toNat) = ji6 := shr_small hji6
          by_cases c7 : x0_1.length < 140737488355328
          · rw [if_pos c7] at H
            have LMc7 := Aside0.mk c7
            clear c7
            obtain ⟨y124, hy124⟩ : ∃ y_ : List Int, y_ = (x0_1 ++ [(ji6) % 256]) := ⟨_, rfl⟩
            replace H : (codec_put.l0 k1 y124 a1 (wrap64 (x7_1 - 8))) = some r := by first | (rw [hy124]; with_reducible exact H) | (have H2_ := (Option.bind_some _ _).symm.trans H; rw [hy124]; with_reducible exact H2_) | (have H2_ := (Option.bind_some _ _).symm.trans H; with_reducible exact H2_) | with_reducible exact H | (rw [hy124]; exact H) | exact H
            have Ny124 := Aside0.mk hy124
            clear hy124
            have H' := Aside0.mk H
            clear H
            go_wp2_with (first | ((with_reducible refine gate_builtin (b := .append) (xs := #[.tmp 15, .tmp 20]) rfl ?_); at_builtin; refine Kd.R_append (Kd.int .u8) (w0 := w0) w0.heap.size rfl (.tmp 15) (.tmp 20) 56 5 (.int .u8 0) 1 rfl Tryd.underlying56 info5 rfl (by decide) (by omega) u0 x0_1 ((ji6) % 256) [.int .u8 ((ji6) % 256)] (fun k_ => (P0_ k_ ∨ w.heap.size ≤ k_)) (fun _ => False) rfl rfl ?aP (fun _ hk => hk.elim) ?aF ?aO ?aB ?aS ?aL ?_; (case aP => exact rfl); (case aB => exact bw); (case aF => exact (fun k_ hk => (.inr (Nat.le_trans (by first | exact HK.out.1 | exact (show Kept w _ (fun k_ => P0_ k_) from by repeat (first | (with_reducible first | exact HK.out | apply Kept.alloc | apply Kept.drewN | apply Kept.drew) | exact HK.out)).1) hk)))); (case aO => exact (by (with_reducible repeat (first | apply Kd.R_alloc | apply Kd.R_drewN | apply Kd.R_drew)); exact HO_0.out)); (case aS => exact (below_size bw)); (case aL => have := LMc7.out; omega); intro v125 w8 ho hb hg hat; rw [← Ny124.out] at ho; have n0_ := Aside0.mk (hb); have n1_ := Aside0.mk (Kept.of_grown (S := (fun k_ => P0_ k_)) hg (by repeat (first | (with_reducible first | exact HK.out | apply Kept.alloc | apply Kept.drewN | apply Kept.drew) | exact HK.out)) (fun k_ e_ => (HO_0.out.1 k_ e_))); have n2_ := Aside0.mk (ho); clear HB; clear HK; clear HO_0; have HB := n0_; have HK := n1_; have HO126 := n2_; clear n0_ n1_ n2_; clear ho hb hg hat))
            go_roundg k1
            case measure => have := HK1.out; omega
            case rel => (try rw [hji6]); exact ⟨(y124), (wrap64 (x7_1 - 8)), (by first | rfl | (simp; done) | (simp [*]; done)), H', ⟨by have := HK1.out; omega⟩, ⟨by (with_reducible repeat (first | apply Kd.R_alloc | apply Kd.R_drewN | apply Kd.R_drew)); exact HO126.out⟩, ⟨by repeat (first | (with_reducible first | exact HK.out | apply Kept.alloc | apply Kept.drewN | apply Kept.drew) | exact HK.out)⟩, ⟨bw⟩⟩
          · rw [if_neg c7] at H
            exact absurd H (by simp)
        · rw [if_neg c5] at H
          exact absurd H (by simp)
      · rw [if_neg c4] at H
        have c4b0 : decide (0 ≤ x7_1) = false := decide_eq_false c4
        clear c4
        obtain rfl := Option.some.inj H
        go_wp2
        go_ret
        exact ⟨_, er, by (with_reducible repeat (first | apply Kd.R_alloc | apply Kd.R_drewN | apply Kd.R_drew)); exact HO_0.out, bw, by repeat (first | (with_reducible first | exact HK.out | apply Kept.alloc | apply Kept.drewN | apply Kept.drew) | exact HK.out)⟩

/-! ### codec_Encode: function 14 -/
def codec_Encode.l0 : Nat → List Int → List (S32) → Int → Int → Option (ByteArray × Int)
  | 0, _, _, _, _ => none
  | k + 1, x4, x11, x12, x13 => if x13 < x12 then (if 0 ≤ x13 then (if x13 < (x11.length : Int) then (if ((rd_T32 x11 x13).f0) < 1 then (some ((⟨#[]⟩ : ByteArray), 1)) else (if ((rd_T32 x11 x13).f0) > 4 then (some ((⟨#[]⟩ : ByteArray), 1)) else (if ((rd_T32 x11 x13).f0) = 4 then (if ((rd_T32 x11 x13).f1) = 0 then (if (((rd_T32 x11 x13).f2).size : Int) > 100000 then (some ((⟨#[]⟩ : ByteArray), 3)) else ((codec_put.f k x4 (IntKind.u64.wrap ((((rd_T32 x11 x13).f2).size : Int))) 4).bind fun t129 => (if t129.length + ((rd_T32 x11 x13).f2).size < 140737488355328 then (codec_Encode.l0 k (t129 ++ bytesOf ((rd_T32 x11 x13).f2)) x11 x12 (wrap64 (x13 + 1))) else (none)))) else (some ((⟨#[]⟩ : ByteArray), 1))) else (if 0 ≤ ((rd_T32 x11 x13).f0) then (if ((rd_T32 x11 x13).f0) < 5 then (if ((rd_T32 x11 x13).f2).toList = ([] : List UInt8) then (if (rd sizTabI ((rd_T32 x11 x13).f0)) < 8 then (if 0 ≤ (wrap64 (8 * (rd sizTabI ((rd_T32 x11 x13).f0)))) then (if (shr .u64 ((rd_T32 x11 x13).f1) (wrap64 (8 * (rd sizTabI ((rd_T32 x11 x13).f0))))) > 0 then (some ((⟨#[]⟩ : ByteArray), 1)) else ((codec_put.f k x4 ((rd_T32 x11 x13).f1) (rd sizTabI ((rd_T32 x11 x13).f0))).bind fun t136 => (codec_Encode.l0 k t136 x11 x12 (wrap64 (x13 + 1))))) else (none)) else ((codec_put.f k x4 ((rd_T32 x11 x13).f1) (rd sizTabI ((rd_T32 x11 x13).f0))).bind fun t139 => (codec_Encode.l0 k t139 x11 x12 (wrap64 (x13 + 1))))) else (some ((⟨#[]⟩ : ByteArray), 1))) else (none)) else (none))))) else (none)) else (none)) else (some (strOfNums x4, 0))
def codec_Encode.f (k : Nat) (l0 : List (S32)) : Option (ByteArray × Int) := if (l0.length : Int) > 1000 then (some ((⟨#[]⟩ : ByteArray), 3)) else (codec_Encode.l0 k ([] : List Int) l0 (l0.length : Int) 0)
theorem codec_Encode.mono_l : ∀ k, (∀ y0 y1 y2 y3, LeO (codec_Encode.l0 k y0 y1 y2 y3) (codec_Encode.l0 (k + 1) y0 y1 y2 y3))
  | 0 => fun _ _ _ _ r h => by simp [codec_Encode.l0] at h
  | k + 1 => by
    have ih0 := codec_Encode.mono_l k
    · intro y0 y1 y2 y3
      unfold codec_Encode.l0
      repeat' first
      | (with_reducible exact ih0 _ _ _ _)
      | (with_reducible exact codec_put.mono _ _ _ _)
      | (with_reducible exact LeO.refl _)
      | (with_reducible exact LeO.none _)
      | (with_reducible refine LeO.ite ?_ ?_)
      | (with_reducible refine LeO.bind ?_ (fun _ => ?_))
      | exact ih0 _ _ _ _
      | exact codec_put.mono _ _ _ _
      | exact LeO.none _
      | refine LeO.ite ?_ ?_
      | refine LeO.bind ?_ (fun _ => ?_)
theorem codec_Encode.mono : ∀ a0 k, LeO (codec_Encode.f k a0) (codec_Encode.f (k + 1) a0) := by
  intro a0 k
  have ih0 := codec_Encode.mono_l k
  unfold codec_Encode.f
  repeat' first
      | (with_reducible exact ih0 _ _ _ _)
      | (with_reducible exact codec_put.mono _ _ _ _)
      | (with_reducible exact LeO.refl _)
      | (with_reducible exact LeO.none _)
      | (with_reducible refine LeO.ite ?_ ?_)
      | (with_reducible refine LeO.bind ?_ (fun _ => ?_))
      | exact ih0 _ _ _ _
      | exact codec_put.mono _ _ _ _
      | exact LeO.none _
      | refine LeO.ite ?_ ?_
      | refine LeO.bind ?_ (fun _ => ?_)
def codec_Encode.T14 : Bool × List (List Nat × List Nat) := (true, [([], []), ([], []), ([1], [1]), ([2], [2]), ([3], [3]), ([0, 4], [0, 4]), ([], []), ([6], [6]), ([5, 7, 5], [5, 7]), ([8, 8, 0, 1, 2, 3, 4, 5, 6, 7, 8], [0, 8])])
def codec_Encode.B14 : List Nat := [0, 0, 2, 6, 14, 31, 0, 64, 255, 511]
theorem codec_Encode.tab14 : rtab .any (opsOf Tryd.f14 14) = codec_Encode.T14 := by kernel_rfl
theorem codec_Encode.bits14 : waitsOk codec_Encode.T14.2 codec_Encode.B14 = true := by kernel_rfl
set_option maxHeartbeats 8000000 in
set_option maxRecDepth 100000 in
theorem codec_Encode.calls (k : Nat) (A0 : Option Addr) (c0 : Nat) (l0 : List (S32)) (r1 : ByteArray) (r2 : Int) (w : World) (hr0 : Kd.C k32 w A0 l0.length l0) (hc0 : l0.length ≤ c0) (HT_ : TabOk w) (h : codec_Encode.f k l0 = some (r1, r2)) :
    Calls Tryd.prog 14 #[.slice A0 l0.length c0] w fun e w' => e = .returned (.tuple #[.string r1, .int .i64 r2]) ∧ Below w.heap.size w w' := by
  have HT := Aside0.mk HT_
  have HRGsiz := Aside0.mk HT_.sizC
  clear HT_
  have hu32 := Tryd.underlying32
  have HR0 := Aside0.mk hr0
  have HC0 := Aside0.mk hc0
  clear hr0 hc0
  have HB := Aside0.mk (Below.refl w.heap.size w)
  have H : (if (l0.length : Int) > 1000 then (some ((⟨#[]⟩ : ByteArray), 3)) else (codec_Encode.l0 k ([] : List Int) l0 (l0.length : Int) 0)) = some (r1, r2) := h
  clear h
  by_cases c2 : (l0.length : Int) > 1000
  · rw [if_pos c2] at H
    have c2b0 : decide (1000 < (l0.length : Int)) = true := decide_eq_true c2
    have c2b1 : decide (1000 < l0.length) = true := decide_eq_true (by omega)
    clear c2
    simp only [Option.some.injEq, Prod.mk.injEq] at H
    obtain ⟨rfl, rfl⟩ := H
    go_enter Tryd.func14, Tryd.ntmps14
    go_wp2
    go_ret2
    exact ⟨er, bw⟩
  · rw [if_neg c2] at H
    have c2b0 : decide (1000 < (l0.length : Int)) = false := decide_eq_false c2
    have c2b1 : decide (1000 < l0.length) = false := decide_eq_false (by omega)
    clear c2
    have H' := Aside0.mk H
    clear H
    go_enter Tryd.func14, Tryd.ntmps14
    go_wp2
    go_loopg [4, 13] k (fun kq v4 v13 w' => ∃ (x4_1 : List Int) (x13_1 : Int), v13 = .int .i64 x13_1 ∧ Aside0 (codec_Encode.l0 kq x4_1 l0 (l0.length : Int) x13_1 = some (r1, r2)) ∧ Aside0 (kq ≤ k) ∧ Aside0 (Kd.R (Kd.int .u8) 5 w' w.heap.size (fun _ => True) v4 x4_1) ∧ Aside0 (Below w.heap.size w w'))
    case atStart => exact ⟨(([] : List Int)), (0), (by first | rfl | (simp; done) | (simp [*]; done)), H', ⟨Nat.le_refl _⟩, ⟨by first | exact Kd.R_nil _ _ _ _ _ | exact Kd.N_nil _ _ _ _ _ | exact Kd.V_nil _ _ _ _ _ | exact Kd.Q_nil _ _ _ _ _ | exact Kd.S_nil _ _ _ _ _⟩, ⟨bw⟩⟩
    case round =>
      clear H'
      try clear c1
      try clear c2
      try clear c2b0
      try clear c2b1
      try clear p2
      obtain ⟨x4_1, x13_1, rfl, HA, HK1, HO_4, HB⟩ := hrel
      cases gk with
      | zero => exact absurd HA.out (by simp [codec_Encode.l0])
      | succ k1 =>
        have H := HA.out
        clear HA
        simp only [codec_Encode.l0] at H
        by_cases c3 : x13_1 < (l0.length : Int)
        · rw [if_pos c3] at H
          have c3b0 : decide (x13_1 < (l0.length : Int)) = true := decide_eq_true c3
          clear c3
          by_cases c4 : 0 ≤ x13_1
          · rw [if_pos c4] at H
            have c4b0 : decide (0 ≤ x13_1) = true := decide_eq_true c4
            clear c4
            by_cases c5 : x13_1 < (l0.length : Int)
            · rw [if_pos c5] at H
              have c5b0 : decide (x13_1 < (l0.length : Int)) = true := decide_eq_true c5
              clear c5
              by_cases c6 : ((rd_T32 l0 x13_1).f0) < 1
              · rw [if_pos c6] at H
                have c6b0 : decide (((rd_T32 l0 x13_1).f0) < 1) = true := decide_eq_true c6
                clear c6
                simp only [Option.some.injEq, Prod.mk.injEq] at H
                obtain ⟨rfl, rfl⟩ := H
                have p127 : 0 ≤ (x13_1 : Int) := of_decide_eq_true (by first | (with_reducible assumption) | assumption)
                have q127 : x13_1 < (l0.length : Int) := of_decide_eq_true (by first | (with_reducible assumption) | assumption)
                obtain ⟨ad127, e127, hx127_0, hx127_1, hx127_2⟩ := at_T32 HR0.out x13_1 p127 q127
                cases e127
                replace hx127_0 := (HB.out.cell (World.block_lt_of_cell? w _ hx127_0)).trans hx127_0
                replace hx127_1 := (HB.out.cell (World.block_lt_of_cell? w _ hx127_1)).trans hx127_1
                replace hx127_2 := (HB.out.cell (World.block_lt_of_cell? w _ hx127_2)).trans hx127_2
                replace p127 := eq_true p127
                replace q127 := eq_true q127
                go_wp2_with (first | ((with_reducible refine gate_dst (N := 6) rfl ?_); refine box_event ?hg (N := 6) ?hd (cs := #[.int .i64 0, .int .u64 0, .string (⟨#[]⟩ : ByteArray)]) (t := 32) ?hr ?_; (case hd => rfl); (case hg => rfl); (case hr => first | (go_simp; done) | (go_simp; rfl)); intro gb128 hg w7 hbox hb; have n0_ := Aside0.mk (Kd.R_below (by (with_reducible repeat (first | apply Kd.R_alloc | apply Kd.R_drewN | apply Kd.R_drew)); exact HO_4.out) hb); have n1_ := Aside0.mk (below_step bw hb); have n2_ := Aside0.mk (hbox); have n3_ := Aside0.mk ((g1 hg bw : w.heap.size ≤ gb128)); have n4_ := Aside0.mk ((g1 hg bw : w.heap.size ≤ gb128)); clear HO_4; clear HB; have HO_4 := n0_; have HB := n1_; have BK128 := n2_; have GW128 := n3_; have GE128 := n4_; clear n0_ n1_ n2_ n3_ n4_; clear hb hbox hg; have hcz8_0 := bc3_0 BK128.out; have hcz8_1 := bc3_1 BK128.out; have hcz8_2 := bc3_2 BK128.out; have hfz8_0 := blk_frozen BK128.out 0; have hfz8_1 := blk_frozen BK128.out 1; have hfz8_2 := blk_frozen BK128.out 2))
                go_ret2
                exact ⟨er, bw⟩
              · rw [if_neg c6] at H
                have c6b0 : decide (((rd_T32 l0 x13_1).f0) < 1) = false := decide_eq_false c6
                clear c6
                by_cases c9 : ((rd_T32 l0 x13_1).f0) > 4
                · rw [if_pos c9] at H
                  have c9b0 : decide (4 < ((rd_T32 l0 x13_1).f0)) = true := decide_eq_true c9
                  clear c9
                  simp only [Option.some.injEq, Prod.mk.injEq] at H
                  obtain ⟨rfl, rfl⟩ := H
                  have p127 : 0 ≤ (x13_1 : Int) := of_decide_eq_true (by first | (with_reducible assumption) | assumption)
                  have q127 : x13_1 < (l0.length : Int) := of_decide_eq_true (by first | (with_reducible assumption) | assumption)
                  obtain ⟨ad127, e127, hx127_0, hx127_1, hx127_2⟩ := at_T32 HR0.out x13_1 p127 q127
                  cases e127
                  replace hx127_0 := (HB.out.cell (World.block_lt_of_cell? w _ hx127_0)).trans hx127_0
                  replace hx127_1 := (HB.out.cell (World.block_lt_of_cell? w _ hx127_1)).trans hx127_1
                  replace hx127_2 := (HB.out.cell (World.block_lt_of_cell? w _ hx127_2)).trans hx127_2
                  replace p127 := eq_true p127
                  replace q127 := eq_true q127
                  go_wp2_with (first | ((with_reducible refine gate_dst (N := 6) rfl ?_); refine box_event ?hg (N := 6) ?hd (cs := #[.int .i64 0, .int .u64 0, .string (⟨#[]⟩ : ByteArray)]) (t := 32) ?hr ?_; (case hd => rfl); (case hg => rfl); (case hr => first | (go_simp; done) | (go_simp; rfl)); intro gb128 hg w10 hbox hb; have n0_ := Aside0.mk (Kd.R_below (by (with_reducible repeat (first | apply Kd.R_alloc | apply Kd.R_drewN | apply Kd.R_drew)); exact HO_4.out) hb); have n1_ := Aside0.mk (below_step bw hb); have n2_ := Aside0.mk (hbox); have n3_ := Aside0.mk ((g1 hg bw : w.heap.size ≤ gb128)); have n4_ := Aside0.mk ((g1 hg bw : w.heap.size ≤ gb128)); clear HO_4; clear HB; have HO_4 := n0_; have HB := n1_; have BK128 := n2_; have GW128 := n3_; have GE128 := n4_; clear n0_ n1_ n2_ n3_ n4_; clear hb hbox hg; have hcz11_0 := bc3_0 BK128.out; have hcz11_1 := bc3_1 BK128.out; have hcz11_2 := bc3_2 BK128.out; have hfz11_0 := blk_frozen BK128.out 0; have hfz11_1 := blk_frozen BK128.out 1; have hfz11_2 := blk_frozen BK128.out 2))
                  go_ret2
                  exact ⟨er, bw⟩
                · rw [if_neg c9] at H
                  have c9b0 : decide (4 < ((rd_T32 l0 x13_1).f0)) = false := decide_eq_false c9
                  clear c9
                  by_cases c12 : ((rd_T32 l0 x13_1).f0) = 4
                  · rw [if_pos c12] at H
                    have c12b0 : (((rd_T32 l0 x13_1).f0) == 4) = true := beq_iff_eq.mpr c12
                    have c12b1 : (((rd_T32 l0 x13_1).f0) != 4) = false := bne_eq_false_iff_eq.mpr c12
                    clear c12
                    by_cases c13 : ((rd_T32 l0 x13_1).f1) = 0
                    · rw [if_pos c13] at H
                      have c13b0 : (((rd_T32 l0 x13_1).f1) == 0) = true := beq_iff_eq.mpr c13
                      have c13b1 : (((rd_T32 l0 x13_1).f1) != 0) = false := bne_eq_false_iff_eq.mpr c13
                      clear c13
                      by_cases c14 : (((rd_T32 l0 x13_1).f2).size : Int) > 100000
                      · rw [if_pos c14] at H
                        have c14b0 : decide (100000 < (((rd_T32 l0 x13_1).f2).size : Int)) = true := decide_eq_true c14
                        have c14b1 : decide (100000 < ((rd_T32 l0 x13_1).f2).size) = true := decide_eq_true (by omega)
                        clear c14
                        simp only [Option.some.injEq, Prod.mk.injEq] at H
                        obtain ⟨rfl, rfl⟩ := H
                        have p127 : 0 ≤ (x13_1 : Int) := of_decide_eq_true (by first | (with_reducible assumption) | assumption)
                        have q127 : x13_1 < (l0.length : Int) := of_decide_eq_true (by first | (with_reducible assumption) | assumption)
                        obtain ⟨ad127, e127, hx127_0, hx127_1, hx127_2⟩ := at_T32 HR0.out x13_1 p127 q127
                        cases e127
                        replace hx127_0 := (HB.out.cell (World.block_lt_of_cell? w _ hx127_0)).trans hx127_0
                        replace hx127_1 := (HB.out.cell (World.block_lt_of_cell? w _ hx127_1)).trans hx127_1
                        replace hx127_2 := (HB.out.cell (World.block_lt_of_cell? w _ hx127_2)).trans hx127_2
                        replace p127 := eq_true p127
                        replace q127 := eq_true q127
                        go_wp2_with (first | ((with_reducible refine gate_dst (N := 6) rfl ?_); refine box_event ?hg (N := 6) ?hd (cs := #[.int .i64 0, .int .u64 0, .string (⟨#[]⟩ : ByteArray)]) (t := 32) ?hr ?_; (case hd => rfl); (case hg => rfl); (case hr => first | (go_simp; done) | (go_simp; rfl)); intro gb128 hg w15 hbox hb; have n0_ := Aside0.mk (Kd.R_below (by (with_reducible repeat (first | apply Kd.R_alloc | apply Kd.R_drewN | apply Kd.R_drew)); exact HO_4.out) hb); have n1_ := Aside0.mk (below_step bw hb); have n2_ := Aside0.mk (hbox); have n3_ := Aside0.mk ((g1 hg bw : w.heap.size ≤ gb128)); have n4_ := Aside0.mk ((g1 hg bw : w.heap.size ≤ gb128)); clear HO_4; clear HB; have HO_4 := n0_; have HB := n1_; have BK128 := n2_; have GW128 := n3_; have GE128 := n4_; clear n0_ n1_ n2_ n3_ n4_; clear hb hbox hg; have hcz16_0 := bc3_0 BK128.out; have hcz16_1 := bc3_1 BK128.out; have hcz16_2 := bc3_2 BK128.out; have hfz16_0 := blk_frozen BK128.out 0; have hfz16_1 := blk_frozen BK128.out 1; have hfz16_2 := blk_frozen BK128.out 2))
                        go_ret2
                        exact ⟨er, bw⟩
                      · rw [if_neg c14] at H
                        have c14b0 : decide (100000 < (((rd_T32 l0 x13_1).f2).size : Int)) = false := decide_eq_false c14
                        have c14b1 : decide (100000 < ((rd_T32 l0 x13_1).f2).size) = false := decide_eq_false (by omega)
                        clear c14
                        replace H := Option.bind_eq_some_iff.mp H
                        obtain ⟨t129, A170, H⟩ := H
                        replace H : (if t129.length + ((rd_T32 l0 x13_1).f2).size < 140737488355328 then (codec_Encode.l0 k1 (t129 ++ bytesOf ((rd_T32 l0 x13_1).f2)) l0 (l0.length : Int) (wrap64 (x13_1 + 1))) else (none)) = some (r1, r2) := H
                        have A17 := Aside0.mk A170
                        clear A170
                        by_cases c18 : t129.length + ((rd_T32 l0 x13_1).f2).size < 140737488355328
                        · rw [if_pos c18] at H
                          have LMc18 := Aside0.mk c18
                          clear c18
                          obtain ⟨y132, hy132⟩ : ∃ y_ : List Int, y_ = (t129 ++ bytesOf ((rd_T32 l0 x13_1).f2)) := ⟨_, rfl⟩
                          replace H : (codec_Encode.l0 k1 y132 l0 (l0.length : Int) (wrap64 (x13_1 + 1))) = some (r1, r2) := by first | (rw [hy132]; with_reducible exact H) | (have H2_ := (Option.bind_some _ _).symm.trans H; rw [hy132]; with_reducible exact H2_) | (have H2_ := (Option.bind_some _ _).symm.trans H; with_reducible exact H2_) | with_reducible exact H | (rw [hy132]; exact H) | exact H
                          have Ny132 := Aside0.mk hy132
                          clear hy132
                          have H' := Aside0.mk H
                          clear H
                          have p127 : 0 ≤ (x13_1 : Int) := of_decide_eq_true (by first | (with_reducible assumption) | assumption)
                          have q127 : x13_1 < (l0.length : Int) := of_decide_eq_true (by first | (with_reducible assumption) | assumption)
                          obtain ⟨ad127, e127, hx127_0, hx127_1, hx127_2⟩ := at_T32 HR0.out x13_1 p127 q127
                          cases e127
                          replace hx127_0 := (HB.out.cell (World.block_lt_of_cell? w _ hx127_0)).trans hx127_0
                          replace hx127_1 := (HB.out.cell (World.block_lt_of_cell? w _ hx127_1)).trans hx127_1
                          replace hx127_2 := (HB.out.cell (World.block_lt_of_cell? w _ hx127_2)).trans hx127_2
                          replace p127 := eq_true p127
                          replace q127 := eq_true q127
                          try go_wp2_with (first | ((with_reducible refine gate_dst (N := 6) rfl ?_); refine box_event ?hg (N := 6) ?hd (cs := #[.int .i64 0, .int .u64 0, .string (⟨#[]⟩ : ByteArray)]) (t := 32) ?hr ?_; (case hd => rfl); (case hg => rfl); (case hr => first | (go_simp; done) | (go_simp; rfl)); intro gb128 hg w19 hbox hb; have n0_ := Aside0.mk (Kd.R_below (by (with_reducible repeat (first | apply Kd.R_alloc | apply Kd.R_drewN | apply Kd.R_drew)); exact HO_4.out) hb); have n1_ := Aside0.mk (below_step bw hb); have n2_ := Aside0.mk (hbox); have n3_ := Aside0.mk ((g1 hg bw : w.heap.size ≤ gb128)); have n4_ := Aside0.mk ((g1 hg bw : w.heap.size ≤ gb128)); clear HO_4; clear HB; have HO_4 := n0_; have HB := n1_; have BK128 := n2_; have GW128 := n3_; have GE128 := n4_; clear n0_ n1_ n2_ n3_ n4_; clear hb hbox hg; have hcz20_0 := bc3_0 BK128.out; have hcz20_1 := bc3_1 BK128.out; have hcz20_2 := bc3_2 BK128.out; have hfz20_0 := blk_frozen BK128.out 0; have hfz20_1 := blk_frozen BK128.out 1; have hfz20_2 := blk_frozen BK128.out 2))
                          have n0_ : Aside0 (Kd.R (Kd.int .u8) 5 (((w19.setCell ⟨gb128, 0, none⟩ (.int .i64 ((rd_T32 l0 x13_1).f0))).setCell ⟨gb128, 1, none⟩ (.int .u64 ((rd_T32 l0 x13_1).f1))).setCell ⟨gb128, 2, none⟩ (.string ((rd_T32 l0 x13_1).f2))) w.heap.size (fun _ => True) u4 x4_1) := ⟨by (with_reducible repeat (first | apply Kd.R_alloc | apply Kd.R_drewN | apply Kd.R_drew)); exact Kd.R_mono (Kd.R_far (p := ⟨gb128, 2, none⟩) (Kd.R_far (p := ⟨gb128, 1, none⟩) (Kd.R_far (p := ⟨gb128, 0, none⟩) (Kd.R_types HO_4.out BK128.out (by decide)) (fun _ hk => hk.2) (.int .i64 ((rd_T32 l0 x13_1).f0))) (fun _ hk => hk.2) (.int .u64 ((rd_T32 l0 x13_1).f1))) (fun _ hk => hk.2) (.string ((rd_T32 l0 x13_1).f2))) (fun _ hk => trivial)⟩
                          have n1_ : Aside0 ((((w19.setCell ⟨gb128, 0, none⟩ (.int .i64 ((rd_T32 l0 x13_1).f0))).setCell ⟨gb128, 1, none⟩ (.int .u64 ((rd_T32 l0 x13_1).f1))).setCell ⟨gb128, 2, none⟩ (.string ((rd_T32 l0 x13_1).f2))).heap[gb128]? = some (.cells #[.int .i64 ((rd_T32 l0 x13_1).f0), .int .u64 ((rd_T32 l0 x13_1).f1), .string ((rd_T32 l0 x13_1).f2)] 32 (0, 0))) := ⟨by (with_reducible repeat (first | refine blk_drewN ?_ _ | refine blk_drew ?_ | refine blk_alloc ?_ _)); refine blk_put (cs := #[.int .i64 ((rd_T32 l0 x13_1).f0), .int .u64 ((rd_T32 l0 x13_1).f1), .string (⟨#[]⟩ : ByteArray)]) ?_ 2 _ rfl; (with_reducible repeat (first | refine blk_drewN ?_ _ | refine blk_drew ?_ | refine blk_alloc ?_ _)); refine blk_put (cs := #[.int .i64 ((rd_T32 l0 x13_1).f0), .int .u64 0, .string (⟨#[]⟩ : ByteArray)]) ?_ 1 _ rfl; (with_reducible repeat (first | refine blk_drewN ?_ _ | refine blk_drew ?_ | refine blk_alloc ?_ _)); refine blk_put (cs := #[.int .i64 0, .int .u64 0, .string (⟨#[]⟩ : ByteArray)]) ?_ 0 _ rfl; (with_reducible repeat (first | refine blk_drewN ?_ _ | refine blk_drew ?_ | refine blk_alloc ?_ _)); exact BK128.out⟩
                          have n2_ : Aside0 (Below w.heap.size w (((w19.setCell ⟨gb128, 0, none⟩ (.int .i64 ((rd_T32 l0 x13_1).f0))).setCell ⟨gb128, 1, none⟩ (.int .u64 ((rd_T32 l0 x13_1).f1))).setCell ⟨gb128, 2, none⟩ (.string ((rd_T32 l0 x13_1).f2)))) := ⟨bw⟩
                          (try clear HO_4)
                          (try clear BK128)
                          (try clear HB)
                          generalize (((w19.setCell ⟨gb128, 0, none⟩ (.int .i64 ((rd_T32 l0 x13_1).f0))).setCell ⟨gb128, 1, none⟩ (.int .u64 ((rd_T32 l0 x13_1).f1))).setCell ⟨gb128, 2, none⟩ (.string ((rd_T32 l0 x13_1).f2))) = w21 at n0_ n1_ n2_ ⊢
                          have HO_4 := n0_
                          have BK128 := n1_
                          have HB := n2_
                          clear n0_ n1_ n2_
                          have n0_ := Aside0.mk (Kd.R_drew HO_4.out)
                          have n1_ := Aside0.mk (blk_drew BK128.out)
                          have n2_ := Aside0.mk (below_drew1 HB.out)
                          clear HO_4
                          clear BK128
                          clear HB
                          have HO_4 := n0_
                          have BK128 := n1_
                          have HB := n2_
                          clear n0_ n1_ n2_
                          obtain ⟨Ao23, co23, eo23⟩ := Kd.R_slice HO_4.out
                          (first | subst eo23 | (injection eo23 with f1_ f2_ f3_; have f4_ := f1_.symm; have f5_ := f3_.symm; clear f1_ f2_ f3_; subst f4_; subst f5_))
                          refine start_ (n := 10) (S := fun w' => w'.cell? ⟨gb128, 0, none⟩ = some (.int .i64 ((rd_T32 l0 x13_1).f0)) ∧ w'.cell? ⟨gb128, 1, none⟩ = some (.int .u64 ((rd_T32 l0 x13_1).f1)) ∧ w'.cell? ⟨gb128, 2, none⟩ = some (.string ((rd_T32 l0 x13_1).f2))) (ds := []) #[false, false, false, false, false, false, false, false, false, false] (by kernel_rfl) rfl rfl ⟨(blk_cell BK128.out 0).trans rfl, (blk_cell BK128.out 1).trans rfl, (blk_cell BK128.out 2).trans rfl⟩ (fun hHeld => ?_); refine with_tabW codec_Encode.tab14 codec_Encode.bits14 (fun HT_ HW_ => ?_)
                          generalize w21.drew = w22 at HO_4 BK128 HB hHeld ⊢
                          refine pure_ (i := 0) (N := some 35) (v := ?_) (a' := ?_) #[true, false, false, false, false, false, false, false, false, false] rfl rfl (any_of HT_.out (by kernel_rfl)) (fun _ _ _ h => h) (Or.inl ⟨by rfl, ?_⟩) ?_ ?_
                          rotate_left
                          · intro w'
                            go_simp
                            with_reducible rfl
                          rotate_left
                          · simp only [Act.put, List.setIfInBounds_toArray, List.set_cons_zero, List.set_cons_succ, i64_w, i32_w]
                            rfl
                          refine pure_ (i := 1) (N := some 36) (v := ?_) (a' := ?_) #[true, true, false, false, false, false, false, false, false, false] rfl rfl (any_of HT_.out (by kernel_rfl)) (fun _ _ _ h => h) (Or.inl ⟨by rfl, ?_⟩) ?_ ?_
                          rotate_left
                          · intro w'
                            go_simp
                            with_reducible rfl
                          rotate_left
                          · simp only [Act.put, List.setIfInBounds_toArray, List.set_cons_zero, List.set_cons_succ, i64_w, i32_w]
                            rfl
                          refine pure_ (i := 6) (N := some 41) (v := ?_) (a' := ?_) #[true, true, false, false, false, false, true, false, false, false] rfl rfl (any_of HT_.out (by kernel_rfl)) (fun _ _ _ h => h) (Or.inl ⟨by rfl, ?_⟩) ?_ ?_
                          rotate_left
                          · intro w'
                            go_simp
                            with_reducible rfl
                          rotate_left
                          · simp only [Act.put, List.setIfInBounds_toArray, List.set_cons_zero, List.set_cons_succ, i64_w, i32_w]
                            rfl
                          refine take_ (i := 2) (N := some 37) (v := ?_) (a' := ?_) #[true, true, true, false, false, false, true, false, false, false] rfl rfl (take_ofW HT_.out HW_.out (by kernel_rfl)) (fun _ _ _ h => h) (Or.inl ⟨by rfl, ?_⟩) hHeld ?_ ?_
                          rotate_left
                          · rintro w' ⟨s0, s1, s2⟩
                            go_simp
                            with_reducible rfl
                          rotate_left
                          · simp only [Act.put, List.setIfInBounds_toArray, List.set_cons_zero, List.set_cons_succ, i64_w, i32_w]
                            rfl
                          refine pure_ (i := 3) (N := some 38) (v := ?_) (a' := ?_) #[true, true, true, true, false, false, true, false, false, false] rfl rfl (any_of HT_.out (by kernel_rfl)) (fun _ _ _ h => h) (Or.inl ⟨by rfl, ?_⟩) ?_ ?_
                          rotate_left
                          · intro w'
                            go_simp
                            with_reducible rfl
                          rotate_left
                          · simp only [Act.put, List.setIfInBounds_toArray, List.set_cons_zero, List.set_cons_succ, i64_w, i32_w]
                            rfl
                          refine pure_ (i := 4) (N := some 39) (v := ?_) (a' := ?_) #[true, true, true, true, true, false, true, false, false, false] rfl rfl (any_of HT_.out (by kernel_rfl)) (fun _ _ _ h => h) (Or.inl ⟨by rfl, ?_⟩) ?_ ?_
                          rotate_left
                          · intro w'
                            go_simp
                            with_reducible rfl
                          rotate_left
                          · simp only [Act.put, List.setIfInBounds_toArray, List.set_cons_zero, List.set_cons_succ, i64_w, i32_w]
                            rfl
                          refine take_ (i := 7) (N := some 42) (v := ?_) (a' := ?_) #[true, true, true, true, true, false, true, true, false, false] rfl rfl (take_ofW HT_.out HW_.out (by kernel_rfl)) (fun _ _ _ h => h) (Or.inl ⟨by rfl, ?_⟩) hHeld ?_ ?_
                          rotate_left
                          · rintro w' ⟨s0, s1, s2⟩
                            go_simp
                            with_reducible rfl
                          rotate_left
                          · simp only [Act.put, List.setIfInBounds_toArray, List.set_cons_zero, List.set_cons_succ, i64_w, i32_w]
                            rfl
                          refine one_ (i := 5) (N := some 40) #[true, true, true, true, true, true, true, true, false, false] rfl rfl (one_of HT_.out (by kernel_rfl)) (by decide) (fun K hK => ?_)
                          refine goes_ Tryd.func26 (by kernel_rfl) rfl #[.slice Ao23 x4_1.length co23, .int .u64 (IntKind.u64.wrap ((((rd_T32 l0 x13_1).f2).size : Int))), .int .i64 4] (by rfl) rfl rfl am ?_
                          with_reducible refine (codec_put.calls k1 (fun k_ => some k_ = (.slice Ao23 x4_1.length co23 : Value).ownBlock) (.slice Ao23 x4_1.length co23) x4_1 (IntKind.u64.wrap ((((rd_T32 l0 x13_1).f2).size : Int))) 4 t129 w _ ?side1 ?side2 A17.out).mono ?_
                          (case side1 => repeat (first | (with_reducible first | exact HB.out | apply below_alloc | apply pw_below_drewN | apply below_drew1 | refine below_set ?_ GE128.out) | exact HB.out))
                          (case side2 => exact Kd.R_tight rfl HO_4.out)
                          rintro e w24 ⟨v130, rfl, ho0, hb, hkp⟩
                          refine ⟨_, rfl, ?_⟩
                          have n0_ := Aside0.mk (blk_kept (bk BK128.out) hkp (fun hs_ => (fun e_ => (Kd.R_ne HO_4.out BK128.out (by decide)) e_) hs_))
                          have n1_ := Aside0.mk (Kd.R_mono (ok' := fun k_ => True) ho0 (fun k_ hk_ => trivial))
                          have n2_ := Aside0.mk (hb)
                          clear BK128
                          clear HB
                          clear HO_4
                          have BK128 := n0_
                          have HO131 := n1_
                          have HB := n2_
                          clear n0_ n1_ n2_
                          (try clear hb)
                          (try clear hkp)
                          (try clear ho0)
                          refine hK.out _ _ ⟨(blk_cell BK128.out 0).trans rfl, (blk_cell BK128.out 1).trans rfl, (blk_cell BK128.out 2).trans rfl⟩ (fun hHeld => ?_)
                          clear hK K
                          refine norm_ (a' := ?_) ?_ ?_
                          rotate_left
                          · show Act.put _ (some 40) _ = _
                            simp only [Act.put, List.setIfInBounds_toArray, List.set_cons_zero, List.set_cons_succ, i64_w, i32_w]
                            rfl
                          refine one_ (i := 8) (N := some 43) #[true, true, true, true, true, true, true, true, true, false] rfl rfl (one_of HT_.out (by kernel_rfl)) (by decide) (fun K hK => ?_)
                          refine step_append_str (w0 := w) w.heap.size (by rfl) (.tmp 40) _ 56 9 5 rfl Tryd.underlying56 Tryd.underlying9 info5 v130 t129 ((rd_T32 l0 x13_1).f2) rfl rfl ?aO ?aB ?aS ?aL ?_
                          (case aB => exact bw)
                          (case aO => exact (Kd.own_of_R (by (with_reducible repeat (first | apply Kd.R_alloc | apply Kd.R_drewN | apply Kd.R_drew)); exact HO131.out)))
                          (case aS => exact (below_size bw))
                          (case aL => have := LMc18.out; omega)
                          intro v133 w25 ho0 hb hg
                          have ho := Kd.R_of_own (h1 := fun _ => rfl) (ok := fun _ => True) ho0 (fun _ _ => trivial)
                          clear ho0
                          have hat := True.intro
                          rw [← Ny132.out] at ho
                          change Kd.R (Kd.int .u8) 5 w25 w.heap.size (fun _ => True) v133 y132 at ho
                          have n0_ := Aside0.mk (blk_grown (g := gb128) (o := .cells #[.int .i64 ((rd_T32 l0 x13_1).f0), .int .u64 ((rd_T32 l0 x13_1).f1), .string ((rd_T32 l0 x13_1).f2)] 32 (0, 0)) (bk BK128.out) hg (Kd.R_ne HO131.out BK128.out (by decide)))
                          have n1_ := Aside0.mk (hb)
                          have n2_ := Aside0.mk (ho)
                          clear BK128
                          clear HB
                          clear HO131
                          have BK128 := n0_
                          have HB := n1_
                          have HO134 := n2_
                          clear n0_ n1_ n2_
                          clear ho hb hg hat
                          refine hK.out _ _ ⟨(blk_cell BK128.out 0).trans rfl, (blk_cell BK128.out 1).trans rfl, (blk_cell BK128.out 2).trans rfl⟩ (fun hHeld => ?_)
                          clear hK K
                          refine norm_ (a' := ?_) ?_ ?_
                          rotate_left
                          · show Act.put _ (some 43) _ = _
                            simp only [Act.put, List.setIfInBounds_toArray, List.set_cons_zero, List.set_cons_succ, i64_w, i32_w]
                            rfl
                          refine pure_ (i := 9) (N := some 4) (v := ?_) (a' := ?_) #[true, true, true, true, true, true, true, true, true, true] rfl rfl (any_of HT_.out (by kernel_rfl)) (fun _ _ _ h => h) (Or.inl ⟨by rfl, ?_⟩) ?_ ?_
                          rotate_left
                          · intro w'
                            go_simp
                            with_reducible rfl
                          rotate_left
                          · simp only [Act.put, List.setIfInBounds_toArray, List.set_cons_zero, List.set_cons_succ, i64_w, i32_w]
                            rfl
                          refine done_ (done_of HT_.out (by kernel_rfl)) ?_
                          try go_wp2
                          go_roundg k1
                          case measure => have := HK1.out; omega
                          case rel => exact ⟨(y132), (wrap64 (x13_1 + 1)), (by first | rfl | (simp; done) | (simp [*]; done)), H', ⟨by have := HK1.out; omega⟩, ⟨by (with_reducible repeat (first | apply Kd.R_alloc | apply Kd.R_drewN | apply Kd.R_drew)); exact HO134.out⟩, ⟨bw⟩⟩
                        · rw [if_neg c18] at H
                          exact absurd H (by simp)
                    · rw [if_neg c13] at H
                      have c13b0 : (((rd_T32 l0 x13_1).f1) == 0) = false := beq_eq_false_iff_ne.mpr c13
                      have c13b1 : (((rd_T32 l0 x13_1).f1) != 0) = true := bne_iff_ne.mpr c13
                      simp only [Option.some.injEq, Prod.mk.injEq] at H
                      obtain ⟨rfl, rfl⟩ := H
                      have p127 : 0 ≤ (x13_1 : Int) := of_decide_eq_true (by first | (with_reducible assumption) | assumption)
                      have q127 : x13_1 < (l0.length : Int) := of_decide_eq_true (by first | (with_reducible assumption) | assumption)
                      obtain ⟨ad127, e127, hx127_0, hx127_1, hx127_2⟩ := at_T32 HR0.out x13_1 p127 q127
                      cases e127
                      replace hx127_0 := (HB.out.cell (World.block_lt_of_cell? w _ hx127_0)).trans hx127_0
                      replace hx127_1 := (HB.out.cell (World.block_lt_of_cell? w _ hx127_1)).trans hx127_1
                      replace hx127_2 := (HB.out.cell (World.block_lt_of_cell? w _ hx127_2)).trans hx127_2
                      replace p127 := eq_true p127
                      replace q127 := eq_true q127
                      go_wp2_with (first | ((with_reducible refine gate_dst (N := 6) rfl ?_); refine box_event ?hg (N := 6) ?hd (cs := #[.int .i64 0, .int .u64 0, .string (⟨#[]⟩ : ByteArray)]) (t := 32) ?hr ?_; (case hd => rfl); (case hg => rfl); (case hr => first | (go_simp; done) | (go_simp; rfl)); intro gb128 hg w26 hbox hb; have n0_ := Aside0.mk (Kd.R_below (by (with_reducible repeat (first | apply Kd.R_alloc | apply Kd.R_drewN | apply Kd.R_drew)); exact HO_4.out) hb); have n1_ := Aside0.mk (below_step bw hb); have n2_ := Aside0.mk (hbox); have n3_ := Aside0.mk ((g1 hg bw : w.heap.size ≤ gb128)); have n4_ := Aside0.mk ((g1 hg bw : w.heap.size ≤ gb128)); clear HO_4; clear HB; have HO_4 := n0_; have HB := n1_; have BK128 := n2_; have GW128 := n3_; have GE128 := n4_; clear n0_ n1_ n2_ n3_ n4_; clear hb hbox hg; have hcz27_0 := bc3_0 BK128.out; have hcz27_1 := bc3_1 BK128.out; have hcz27_2 := bc3_2 BK128.out; have hfz27_0 := blk_frozen BK128.out 0; have hfz27_1 := blk_frozen BK128.out 1; have hfz27_2 := blk_frozen BK128.out 2))
                      go_ret2
                      exact ⟨er, bw⟩
                  · rw [if_neg c12] at H
                    have c12b0 : (((rd_T32 l0 x13_1).f0) == 4) = false := beq_eq_false_iff_ne.mpr c12
                    have c12b1 : (((rd_T32 l0 x13_1).f0) != 4) = true := bne_iff_ne.mpr c12
                    by_cases c28 : 0 ≤ ((rd_T32 l0 x13_1).f0)
                    · rw [if_pos c28] at H
                      have c28b0 : decide (0 ≤ ((rd_T32 l0 x13_1).f0)) = true := decide_eq_true c28
                      clear c28
                      by_cases c29 : ((rd_T32 l0 x13_1).f0) < 5
                      · rw [if_pos c29] at H
                        have c29b0 : decide (((rd_T32 l0 x13_1).f0) < 5) = true := decide_eq_true c29
                        clear c29
                        by_cases c30 : ((rd_T32 l0 x13_1).f2).toList = ([] : List UInt8)
                        · rw [if_pos c30] at H
                          have c30b0 : (((rd_T32 l0 x13_1).f2).toList == ([] : List UInt8)) = true := beq_iff_eq.mpr c30
                          have c30b1 : (((rd_T32 l0 x13_1).f2).toList != ([] : List UInt8)) = false := bne_eq_false_iff_eq.mpr c30
                          clear c30
                          by_cases c31 : (rd sizTabI ((rd_T32 l0 x13_1).f0)) < 8
                          · rw [if_pos c31] at H
                            have c31b0 : decide ((rd sizTabI ((rd_T32 l0 x13_1).f0)) < 8) = true := decide_eq_true c31
                            clear c31
                            obtain ⟨ji32, hji32⟩ : ∃ j_ : Int, (wrap64 (8 * (rd sizTabI ((rd_T32 l0 x13_1).f0)))) = j_ := ⟨_, rfl⟩
                            replace H : (if 0 ≤ (ji32) then (if (shr .u64 ((rd_T32 l0 x13_1).f1) (ji32)) > 0 then (some ((⟨#[]⟩ : ByteArray), 1)) else ((codec_put.f k1 x4_1 ((rd_T32 l0 x13_1).f1) (rd sizTabI ((rd_T32 l0 x13_1).f0))).bind fun t136 => (codec_Encode.l0 k1 t136 l0 (l0.length : Int) (wrap64 (x13_1 + 1))))) else (none)) = some (r1, r2) := by first | (rw [hji32] at H; exact H) | (simp only [hji32] at H ⊢; exact H)
                            have hji32w : (IntKind.i64.wrap (8 * (rd sizTabI ((rd_T32 l0 x13_1).f0)))) = ji32 := (i64_w _).trans hji32
                            by_cases c33 : 0 ≤ (ji32)
                            · rw [if_pos c33] at H
                              have c33b0 := eq_true c33
                              have c33b1 : decide (0 ≤ (ji32)) = true := decide_eq_true c33
                              clear c33
                              obtain ⟨ji34, hji34⟩ : ∃ j_ : Int, (shr .u64 ((rd_T32 l0 x13_1).f1) (ji32)) = j_ := ⟨_, rfl⟩
                              replace H : (if (ji34) > 0 then (some ((⟨#[]⟩ : ByteArray), 1)) else ((codec_put.f k1 x4_1 ((rd_T32 l0 x13_1).f1) (rd sizTabI ((rd_T32 l0 x13_1).f0))).bind fun t136 => (codec_Encode.l0 k1 t136 l0 (l0.length : Int) (wrap64 (x13_1 + 1))))) = some (r1, r2) := by first | (rw [hji34] at H; exact H) | (simp only [hji34] at H ⊢; exact H)
                              have hji34_ : (((rd_T32 l0 x13_1).f1) / 2 ^ min (ji32).toNat 64) = ji34 := hji34
                              have hji34z : (ji32) ≤ 64 → (((rd_T32 l0 x13_1).f1) / 2 ^ (ji32).toNat) = ji34 := shr_small hji34
                              by_cases c35 : (ji34) > 0
                              · rw [if_pos c35] at H
                                have c35b0 : decide (0 < (ji34)) = true := decide_eq_true c35
                                clear c35
                                simp only [Option.some.injEq, Prod.mk.injEq] at H
                                obtain ⟨rfl, rfl⟩ := H
                                have p127 : 0 ≤ (x13_1 : Int) := of_decide_eq_true (by first | (with_reducible assumption) | assumption)
                                have q127 : x13_1 < (l0.length : Int) := of_decide_eq_true (by first | (with_reducible assumption) | assumption)
                                obtain ⟨ad127, e127, hx127_0, hx127_1, hx127_2⟩ := at_T32 HR0.out x13_1 p127 q127
                                cases e127
                                replace hx127_0 := (HB.out.cell (World.block_lt_of_cell? w _ hx127_0)).trans hx127_0
                                replace hx127_1 := (HB.out.cell (World.block_lt_of_cell? w _ hx127_1)).trans hx127_1
                                replace hx127_2 := (HB.out.cell (World.block_lt_of_cell? w _ hx127_2)).trans hx127_2
                                replace p127 := eq_true p127
                                replace q127 := eq_true q127
                                go_wp2_with (first | ((with_reducible refine gate_dst (N := 6) rfl ?_); refine box_event ?hg (N := 6) ?hd (cs := #[.int .i64 0, .int .u64 0, .string (⟨#[]⟩ : ByteArray)]) (t := 32) ?hr ?_; (case hd => rfl); (case hg => rfl); (case hr => first | (go_simp; done) | (go_simp; rfl)); intro gb128 hg w36 hbox hb; have n0_ := Aside0.mk (Kd.R_below (by (with_reducible repeat (first | apply Kd.R_alloc | apply Kd.R_drewN | apply Kd.R_drew)); exact HO_4.out) hb); have n1_ := Aside0.mk (below_step bw hb); have n2_ := Aside0.mk (hbox); have n3_ := Aside0.mk ((g1 hg bw : w.heap.size ≤ gb128)); have n4_ := Aside0.mk ((g1 hg bw : w.heap.size ≤ gb128)); clear HO_4; clear HB; have HO_4 := n0_; have HB := n1_; have BK128 := n2_; have GW128 := n3_; have GE128 := n4_; clear n0_ n1_ n2_ n3_ n4_; clear hb hbox hg; have hcz37_0 := bc3_0 BK128.out; have hcz37_1 := bc3_1 BK128.out; have hcz37_2 := bc3_2 BK128.out; have hfz37_0 := blk_frozen BK128.out 0; have hfz37_1 := blk_frozen BK128.out 1; have hfz37_2 := blk_frozen BK128.out 2; have p135 : 0 ≤ (((rd_T32 l0 x13_1).f0) : Int) := of_decide_eq_true (by first | (with_reducible assumption) | assumption); have q135 : ((rd_T32 l0 x13_1).f0) < (sizTabI.length : Int) := of_decide_eq_true (by first | (with_reducible assumption) | assumption); have ql135 : ((((rd_T32 l0 x13_1).f0) : Int) < (5 : Int)) = True := eq_true (of_decide_eq_true (by first | (with_reducible assumption) | assumption)); obtain ⟨ad135, e135, hx135_0⟩ := Kd.at_int HRGsiz.out ((rd_T32 l0 x13_1).f0) p135 q135; obtain rfl : (⟨0, 0, none⟩ : Addr) = ad135 := (by injection e135); (first | simp only [add_plain] at hx135_0 | simp only [add_at] at hx135_0 | simp only [Addr.add, Nat.zero_add] at hx135_0 | skip); have hn135_0 : (⟨0, 0, none⟩ : Addr).block ≠ gb128 := Nat.ne_of_lt (Nat.lt_of_lt_of_le (by have := World.block_lt_of_cell? _ _ hx135_0; first | rwa [add_block] at this | exact this) GW128.out); have hn135_1 : (⟨0, 0, none⟩ : Addr).block ≠ gb128 := Nat.ne_of_lt (Nat.lt_of_lt_of_le (by have := World.block_lt_of_cell? _ _ hx135_0; first | rwa [add_block] at this | exact this) GW128.out); have hn135_2 : (⟨0, 0, none⟩ : Addr).block ≠ gb128 := Nat.ne_of_lt (Nat.lt_of_lt_of_le (by have := World.block_lt_of_cell? _ _ hx135_0; first | rwa [add_block] at this | exact this) GW128.out); replace hx135_0 := (HB.out.cell (World.block_lt_of_cell? w _ hx135_0)).trans hx135_0; replace hx135_0 := (cell_far (p := ⟨gb128, 0, none⟩) (by first | (rw [add_block]; exact hn135_0) | (show (Addr.add _ _).block ≠ _; rw [add_block]; exact hn135_0) | exact hn135_0) (.int .i64 ((rd_T32 l0 x13_1).f0))).trans hx135_0; replace hx135_0 := (cell_far (p := ⟨gb128, 1, none⟩) (by first | (rw [add_block]; exact hn135_1) | (show (Addr.add _ _).block ≠ _; rw [add_block]; exact hn135_1) | exact hn135_1) (.int .u64 ((rd_T32 l0 x13_1).f1))).trans hx135_0; replace hx135_0 := (cell_far (p := ⟨gb128, 2, none⟩) (by first | (rw [add_block]; exact hn135_2) | (show (Addr.add _ _).block ≠ _; rw [add_block]; exact hn135_2) | exact hn135_2) (.string ((rd_T32 l0 x13_1).f2))).trans hx135_0; clear hn135_0; clear hn135_1; clear hn135_2; replace p135 := eq_true p135; replace q135 := eq_true q135))
                                go_ret2
                                exact ⟨by first | rfl | (simp [errW_none, errW_some] <;> rfl) | (simp only [← hji32, ← hji34]; first | rfl | (simp [errW_none, errW_some] <;> rfl)) | (simp [*, errW_none, errW_some] <;> rfl), bw⟩
                              · rw [if_neg c35] at H
                                have c35b0 : decide (0 < (ji34)) = false := decide_eq_false c35
                                clear c35
                                replace H := Option.bind_eq_some_iff.mp H
                                obtain ⟨t136, A380, H⟩ := H
                                replace H : (codec_Encode.l0 k1 t136 l0 (l0.length : Int) (wrap64 (x13_1 + 1))) = some (r1, r2) := H
                                have A38 := Aside0.mk A380
                                clear A380
                                have H' := Aside0.mk H
                                clear H
                                have p127 : 0 ≤ (x13_1 : Int) := of_decide_eq_true (by first | (with_reducible assumption) | assumption)
                                have q127 : x13_1 < (l0.length : Int) := of_decide_eq_true (by first | (with_reducible assumption) | assumption)
                                obtain ⟨ad127, e127, hx127_0, hx127_1, hx127_2⟩ := at_T32 HR0.out x13_1 p127 q127
                                cases e127
                                replace hx127_0 := (HB.out.cell (World.block_lt_of_cell? w _ hx127_0)).trans hx127_0
                                replace hx127_1 := (HB.out.cell (World.block_lt_of_cell? w _ hx127_1)).trans hx127_1
                                replace hx127_2 := (HB.out.cell (World.block_lt_of_cell? w _ hx127_2)).trans hx127_2
                                replace p127 := eq_true p127
                                replace q127 := eq_true q127
                                go_wp2_with (first | ((with_reducible refine gate_dst (N := 6) rfl ?_); refine box_event ?hg (N := 6) ?hd (cs := #[.int .i64 0, .int .u64 0, .string (⟨#[]⟩ : ByteArray)]) (t := 32) ?hr ?_; (case hd => rfl); (case hg => rfl); (case hr => first | (go_simp; done) | (go_simp; rfl)); intro gb128 hg w39 hbox hb; have n0_ := Aside0.mk (Kd.R_below (by (with_reducible repeat (first | apply Kd.R_alloc | apply Kd.R_drewN | apply Kd.R_drew)); exact HO_4.out) hb); have n1_ := Aside0.mk (below_step bw hb); have n2_ := Aside0.mk (hbox); have n3_ := Aside0.mk ((g1 hg bw : w.heap.size ≤ gb128)); have n4_ := Aside0.mk ((g1 hg bw : w.heap.size ≤ gb128)); clear HO_4; clear HB; have HO_4 := n0_; have HB := n1_; have BK128 := n2_; have GW128 := n3_; have GE128 := n4_; clear n0_ n1_ n2_ n3_ n4_; clear hb hbox hg; have hcz40_0 := bc3_0 BK128.out; have hcz40_1 := bc3_1 BK128.out; have hcz40_2 := bc3_2 BK128.out; have hfz40_0 := blk_frozen BK128.out 0; have hfz40_1 := blk_frozen BK128.out 1; have hfz40_2 := blk_frozen BK128.out 2) | ((with_reducible refine gate_store (t := 32) (p := 6) rfl ?_); refine store_event (t := 32) (p := 6) (v := ?vo_w41) (w1 := (((w39.setCell ⟨gb128, 0, none⟩ (.int .i64 ((rd_T32 l0 x13_1).f0))).setCell ⟨gb128, 1, none⟩ (.int .u64 ((rd_T32 l0 x13_1).f1))).setCell ⟨gb128, 2, none⟩ (.string ((rd_T32 l0 x13_1).f2)))) ?hg ?ho ?hn ?hr ?_; (case ho => rfl); (case hg => rfl); (case hn => rfl); (case hr => first | (go_simp; done) | (go_simp; rfl)); intro w41 hw; have n0_ : Aside0 (Kd.R (Kd.int .u8) 5 w41 w.heap.size (fun _ => True) u4 x4_1) := ⟨(by rw [hw]; exact (by (with_reducible repeat (first | apply Kd.R_alloc | apply Kd.R_drewN | apply Kd.R_drew)); exact Kd.R_mono (Kd.R_far (p := ⟨gb128, 2, none⟩) (Kd.R_far (p := ⟨gb128, 1, none⟩) (Kd.R_far (p := ⟨gb128, 0, none⟩) (Kd.R_types HO_4.out BK128.out (by decide)) (fun _ hk => hk.2) (.int .i64 ((rd_T32 l0 x13_1).f0))) (fun _ hk => hk.2) (.int .u64 ((rd_T32 l0 x13_1).f1))) (fun _ hk => hk.2) (.string ((rd_T32 l0 x13_1).f2))) (fun _ hk => trivial)))⟩; have n1_ : Aside0 (w41.heap[gb128]? = some (.cells #[.int .i64 ((rd_T32 l0 x13_1).f0), .int .u64 ((rd_T32 l0 x13_1).f1), .string ((rd_T32 l0 x13_1).f2)] 32 (0, 0))) := ⟨(by rw [hw]; exact (by (with_reducible repeat (first | refine blk_drewN ?_ _ | refine blk_drew ?_ | refine blk_alloc ?_ _)); refine blk_put (cs := #[.int .i64 ((rd_T32 l0 x13_1).f0), .int .u64 ((rd_T32 l0 x13_1).f1), .string (⟨#[]⟩ : ByteArray)]) ?_ 2 _ rfl; (with_reducible repeat (first | refine blk_drewN ?_ _ | refine blk_drew ?_ | refine blk_alloc ?_ _)); refine blk_put (cs := #[.int .i64 ((rd_T32 l0 x13_1).f0), .int .u64 0, .string (⟨#[]⟩ : ByteArray)]) ?_ 1 _ rfl; (with_reducible repeat (first | refine blk_drewN ?_ _ | refine blk_drew ?_ | refine blk_alloc ?_ _)); refine blk_put (cs := #[.int .i64 0, .int .u64 0, .string (⟨#[]⟩ : ByteArray)]) ?_ 0 _ rfl; (with_reducible repeat (first | refine blk_drewN ?_ _ | refine blk_drew ?_ | refine blk_alloc ?_ _)); exact BK128.out))⟩; have n2_ : Aside0 (Below w.heap.size w w41) := ⟨(by rw [hw]; exact bw)⟩; clear hw; clear HO_4; clear BK128; clear HB; have HO_4 := n0_; have BK128 := n1_; have HB := n2_; clear n0_ n1_ n2_; have hcz42_0 := bc3_0 BK128.out; have hcz42_1 := bc3_1 BK128.out; have hcz42_2 := bc3_2 BK128.out; have hfz42_0 := blk_frozen BK128.out 0; have hfz42_1 := blk_frozen BK128.out 1; have hfz42_2 := blk_frozen BK128.out 2; have p135 : 0 ≤ (((rd_T32 l0 x13_1).f0) : Int) := of_decide_eq_true (by first | (with_reducible assumption) | assumption); have q135 : ((rd_T32 l0 x13_1).f0) < (sizTabI.length : Int) := of_decide_eq_true (by first | (with_reducible assumption) | assumption); have ql135 : ((((rd_T32 l0 x13_1).f0) : Int) < (5 : Int)) = True := eq_true (of_decide_eq_true (by first | (with_reducible assumption) | assumption)); obtain ⟨ad135, e135, hx135_0⟩ := Kd.at_int HRGsiz.out ((rd_T32 l0 x13_1).f0) p135 q135; obtain rfl : (⟨0, 0, none⟩ : Addr) = ad135 := (by injection e135); (first | simp only [add_plain] at hx135_0 | simp only [add_at] at hx135_0 | simp only [Addr.add, Nat.zero_add] at hx135_0 | skip); replace hx135_0 := (HB.out.cell (World.block_lt_of_cell? w _ hx135_0)).trans hx135_0; replace p135 := eq_true p135; replace q135 := eq_true q135; obtain ⟨Ao43, co43, eo43⟩ := Kd.R_slice HO_4.out; subst eo43) | ((with_reducible refine gate_callee (f := 26) rfl ?_); refine goesL_ (some 67) rfl rfl Tryd.func26 (by kernel_rfl) rfl #[.slice Ao43 x4_1.length co43, .int .u64 ((rd_T32 l0 x13_1).f1), .int .i64 (rd sizTabI ((rd_T32 l0 x13_1).f0))] rfl am ?_; (with_reducible refine (codec_put.calls k1 (fun k_ => some k_ = (.slice Ao43 x4_1.length co43 : Value).ownBlock) (.slice Ao43 x4_1.length co43) x4_1 ((rd_T32 l0 x13_1).f1) (rd sizTabI ((rd_T32 l0 x13_1).f0)) t136 w _ ?side1 ?side2 A38.out).mono ?_); (case side1 => repeat (first | (with_reducible first | exact HB.out | apply below_alloc | apply pw_below_drewN | apply below_drew1 | refine below_set ?_ GE128.out) | exact HB.out)); (case side2 => exact Kd.R_tight rfl HO_4.out); rintro e w44 ⟨v137, rfl, ho0, hb, hkp⟩; refine ⟨_, rfl, ?_⟩; have n0_ := Aside0.mk (blk_kept (bk BK128.out) hkp (fun hs_ => (fun e_ => (Kd.R_ne HO_4.out BK128.out (by decide)) e_) hs_)); have n1_ := Aside0.mk (Kd.R_mono (ok' := fun k_ => True) ho0 (fun k_ hk_ => trivial)); have n2_ := Aside0.mk (hb); clear BK128; clear HB; clear HO_4; have BK128 := n0_; have HO138 := n1_; have HB := n2_; clear n0_ n1_ n2_; (try clear hb); (try clear hkp); (try clear ho0)))
                                go_roundg k1
                                case measure => have := HK1.out; omega
                                case rel => (try rw [hji32]); (try rw [hji34]); exact ⟨(t136), (wrap64 (x13_1 + 1)), (by first | rfl | (simp; done) | (simp [*]; done)), H', ⟨by have := HK1.out; omega⟩, ⟨by (with_reducible repeat (first | apply Kd.R_alloc | apply Kd.R_drewN | apply Kd.R_drew)); exact HO138.out⟩, ⟨bw⟩⟩
                            · rw [if_neg c33] at H
                              exact absurd H (by simp)
                          · rw [if_neg c31] at H
                            have c31b0 : decide ((rd sizTabI ((rd_T32 l0 x13_1).f0)) < 8) = false := decide_eq_false c31
                            clear c31
                            replace H := Option.bind_eq_some_iff.mp H
                            obtain ⟨t139, A450, H⟩ := H
                            replace H : (codec_Encode.l0 k1 t139 l0 (l0.length : Int) (wrap64 (x13_1 + 1))) = some (r1, r2) := H
                            have A45 := Aside0.mk A450
                            clear A450
                            have H' := Aside0.mk H
                            clear H
                            have p127 : 0 ≤ (x13_1 : Int) := of_decide_eq_true (by first | (with_reducible assumption) | assumption)
                            have q127 : x13_1 < (l0.length : Int) := of_decide_eq_true (by first | (with_reducible assumption) | assumption)
                            obtain ⟨ad127, e127, hx127_0, hx127_1, hx127_2⟩ := at_T32 HR0.out x13_1 p127 q127
                            cases e127
                            replace hx127_0 := (HB.out.cell (World.block_lt_of_cell? w _ hx127_0)).trans hx127_0
                            replace hx127_1 := (HB.out.cell (World.block_lt_of_cell? w _ hx127_1)).trans hx127_1
                            replace hx127_2 := (HB.out.cell (World.block_lt_of_cell? w _ hx127_2)).trans hx127_2
                            replace p127 := eq_true p127
                            replace q127 := eq_true q127
                            go_wp2_with (first | ((with_reducible refine gate_dst (N := 6) rfl ?_); refine box_event ?hg (N := 6) ?hd (cs := #[.int .i64 0, .int .u64 0, .string (⟨#[]⟩ : ByteArray)]) (t := 32) ?hr ?_; (case hd => rfl); (case hg => rfl); (case hr => first | (go_simp; done) | (go_simp; rfl)); intro gb128 hg w46 hbox hb; have n0_ := Aside0.mk (Kd.R_below (by (with_reducible repeat (first | apply Kd.R_alloc | apply Kd.R_drewN | apply Kd.R_drew)); exact HO_4.out) hb); have n1_ := Aside0.mk (below_step bw hb); have n2_ := Aside0.mk (hbox); have n3_ := Aside0.mk ((g1 hg bw : w.heap.size ≤ gb128)); have n4_ := Aside0.mk ((g1 hg bw : w.heap.size ≤ gb128)); clear HO_4; clear HB; have HO_4 := n0_; have HB := n1_; have BK128 := n2_; have GW128 := n3_; have GE128 := n4_; clear n0_ n1_ n2_ n3_ n4_; clear hb hbox hg; have hcz47_0 := bc3_0 BK128.out; have hcz47_1 := bc3_1 BK128.out; have hcz47_2 := bc3_2 BK128.out; have hfz47_0 := blk_frozen BK128.out 0; have hfz47_1 := blk_frozen BK128.out 1; have hfz47_2 := blk_frozen BK128.out 2) | ((with_reducible refine gate_store (t := 32) (p := 6) rfl ?_); refine store_event (t := 32) (p := 6) (v := ?vo_w48) (w1 := (((w46.setCell ⟨gb128, 0, none⟩ (.int .i64 ((rd_T32 l0 x13_1).f0))).setCell ⟨gb128, 1, none⟩ (.int .u64 ((rd_T32 l0 x13_1).f1))).setCell ⟨gb128, 2, none⟩ (.string ((rd_T32 l0 x13_1).f2)))) ?hg ?ho ?hn ?hr ?_; (case ho => rfl); (case hg => rfl); (case hn => rfl); (case hr => first | (go_simp; done) | (go_simp; rfl)); intro w48 hw; have n0_ : Aside0 (Kd.R (Kd.int .u8) 5 w48 w.heap.size (fun _ => True) u4 x4_1) := ⟨(by rw [hw]; exact (by (with_reducible repeat (first | apply Kd.R_alloc | apply Kd.R_drewN | apply Kd.R_drew)); exact Kd.R_mono (Kd.R_far (p := ⟨gb128, 2, none⟩) (Kd.R_far (p := ⟨gb128, 1, none⟩) (Kd.R_far (p := ⟨gb128, 0, none⟩) (Kd.R_types HO_4.out BK128.out (by decide)) (fun _ hk => hk.2) (.int .i64 ((rd_T32 l0 x13_1).f0))) (fun _ hk => hk.2) (.int .u64 ((rd_T32 l0 x13_1).f1))) (fun _ hk => hk.2) (.string ((rd_T32 l0 x13_1).f2))) (fun _ hk => trivial)))⟩; have n1_ : Aside0 (w48.heap[gb128]? = some (.cells #[.int .i64 ((rd_T32 l0 x13_1).f0), .int .u64 ((rd_T32 l0 x13_1).f1), .string ((rd_T32 l0 x13_1).f2)] 32 (0, 0))) := ⟨(by rw [hw]; exact (by (with_reducible repeat (first | refine blk_drewN ?_ _ | refine blk_drew ?_ | refine blk_alloc ?_ _)); refine blk_put (cs := #[.int .i64 ((rd_T32 l0 x13_1).f0), .int .u64 ((rd_T32 l0 x13_1).f1), .string (⟨#[]⟩ : ByteArray)]) ?_ 2 _ rfl; (with_reducible repeat (first | refine blk_drewN ?_ _ | refine blk_drew ?_ | refine blk_alloc ?_ _)); refine blk_put (cs := #[.int .i64 ((rd_T32 l0 x13_1).f0), .int .u64 0, .string (⟨#[]⟩ : ByteArray)]) ?_ 1 _ rfl; (with_reducible repeat (first | refine blk_drewN ?_ _ | refine blk_drew ?_ | refine blk_alloc ?_ _)); refine blk_put (cs := #[.int .i64 0, .int .u64 0, .string (⟨#[]⟩ : ByteArray)]) ?_ 0 _ rfl; (with_reducible repeat (first | refine blk_drewN ?_ _ | refine blk_drew ?_ | refine blk_alloc ?_ _)); exact BK128.out))⟩; have n2_ : Aside0 (Below w.heap.size w w48) := ⟨(by rw [hw]; exact bw)⟩; clear hw; clear HO_4; clear BK128; clear HB; have HO_4 := n0_; have BK128 := n1_; have HB := n2_; clear n0_ n1_ n2_; have hcz49_0 := bc3_0 BK128.out; have hcz49_1 := bc3_1 BK128.out; have hcz49_2 := bc3_2 BK128.out; have hfz49_0 := blk_frozen BK128.out 0; have hfz49_1 := blk_frozen BK128.out 1; have hfz49_2 := blk_frozen BK128.out 2; have p135 : 0 ≤ (((rd_T32 l0 x13_1).f0) : Int) := of_decide_eq_true (by first | (with_reducible assumption) | assumption); have q135 : ((rd_T32 l0 x13_1).f0) < (sizTabI.length : Int) := of_decide_eq_true (by first | (with_reducible assumption) | assumption); have ql135 : ((((rd_T32 l0 x13_1).f0) : Int) < (5 : Int)) = True := eq_true (of_decide_eq_true (by first | (with_reducible assumption) | assumption)); obtain ⟨ad135, e135, hx135_0⟩ := Kd.at_int HRGsiz.out ((rd_T32 l0 x13_1).f0) p135 q135; obtain rfl : (⟨0, 0, none⟩ : Addr) = ad135 := (by injection e135); (first | simp only [add_plain] at hx135_0 | simp only [add_at] at hx135_0 | simp only [Addr.add, Nat.zero_add] at hx135_0 | skip); replace hx135_0 := (HB.out.cell (World.block_lt_of_cell? w _ hx135_0)).trans hx135_0; replace p135 := eq_true p135; replace q135 := eq_true q135; obtain ⟨Ao50, co50, eo50⟩ := Kd.R_slice HO_4.out; subst eo50) | ((with_reducible refine gate_callee (f := 26) rfl ?_); refine goesL_ (some 67) rfl rfl Tryd.func26 (by kernel_rfl) rfl #[.slice Ao50 x4_1.length co50, .int .u64 ((rd_T32 l0 x13_1).f1), .int .i64 (rd sizTabI ((rd_T32 l0 x13_1).f0))] rfl am ?_; (with_reducible refine (codec_put.calls k1 (fun k_ => some k_ = (.slice Ao50 x4_1.length co50 : Value).ownBlock) (.slice Ao50 x4_1.length co50) x4_1 ((rd_T32 l0 x13_1).f1) (rd sizTabI ((rd_T32 l0 x13_1).f0)) t139 w _ ?side1 ?side2 A45.out).mono ?_); (case side1 => repeat (first | (with_reducible first | exact HB.out | apply below_alloc | apply pw_below_drewN | apply below_drew1 | refine below_set ?_ GE128.out) | exact HB.out)); (case side2 => exact Kd.R_tight rfl HO_4.out); rintro e w51 ⟨v140, rfl, ho0, hb, hkp⟩; refine ⟨_, rfl, ?_⟩; have n0_ := Aside0.mk (blk_kept (bk BK128.out) hkp (fun hs_ => (fun e_ => (Kd.R_ne HO_4.out BK128.out (by decide)) e_) hs_)); have n1_ := Aside0.mk (Kd.R_mono (ok' := fun k_ => True) ho0 (fun k_ hk_ => trivial)); have n2_ := Aside0.mk (hb); clear BK128; clear HB; clear HO_4; have BK128 := n0_; have HO141 := n1_; have HB := n2_; clear n0_ n1_ n2_; (try clear hb); (try clear hkp); (try clear ho0)))
                            go_roundg k1
                            case measure => have := HK1.out; omega
                            case rel => exact ⟨(t139), (wrap64 (x13_1 + 1)), (by first | rfl | (simp; done) | (simp [*]; done)), H', ⟨by have := HK1.out; omega⟩, ⟨by (with_reducible repeat (first | apply Kd.R_alloc | apply Kd.R_drewN | apply Kd.R_drew)); exact HO141.out⟩, ⟨bw⟩⟩
                        · rw [if_neg c30] at H
                          have c30b0 : (((rd_T32 l0 x13_1).f2).toList == ([] : List UInt8)) = false := beq_eq_false_iff_ne.mpr c30
                          have c30b1 : (((rd_T32 l0 x13_1).f2).toList != ([] : List UInt8)) = true := bne_iff_ne.mpr c30
                          simp only [Option.some.injEq, Prod.mk.injEq] at H
                          obtain ⟨rfl, rfl⟩ := H
                          have p127 : 0 ≤ (x13_1 : Int) := of_decide_eq_true (by first | (with_reducible assumption) | assumption)
                          have q127 : x13_1 < (l0.length : Int) := of_decide_eq_true (by first | (with_reducible assumption) | assumption)
                          obtain ⟨ad127, e127, hx127_0, hx127_1, hx127_2⟩ := at_T32 HR0.out x13_1 p127 q127
                          cases e127
                          replace hx127_0 := (HB.out.cell (World.block_lt_of_cell? w _ hx127_0)).trans hx127_0
                          replace hx127_1 := (HB.out.cell (World.block_lt_of_cell? w _ hx127_1)).trans hx127_1
                          replace hx127_2 := (HB.out.cell (World.block_lt_of_cell? w _ hx127_2)).trans hx127_2
                          replace p127 := eq_true p127
                          replace q127 := eq_true q127
                          go_wp2_with (first | ((with_reducible refine gate_dst (N := 6) rfl ?_); refine box_event ?hg (N := 6) ?hd (cs := #[.int .i64 0, .int .u64 0, .string (⟨#[]⟩ : ByteArray)]) (t := 32) ?hr ?_; (case hd => rfl); (case hg => rfl); (case hr => first | (go_simp; done) | (go_simp; rfl)); intro gb128 hg w52 hbox hb; have n0_ := Aside0.mk (Kd.R_below (by (with_reducible repeat (first | apply Kd.R_alloc | apply Kd.R_drewN | apply Kd.R_drew)); exact HO_4.out) hb); have n1_ := Aside0.mk (below_step bw hb); have n2_ := Aside0.mk (hbox); have n3_ := Aside0.mk ((g1 hg bw : w.heap.size ≤ gb128)); have n4_ := Aside0.mk ((g1 hg bw : w.heap.size ≤ gb128)); clear HO_4; clear HB; have HO_4 := n0_; have HB := n1_; have BK128 := n2_; have GW128 := n3_; have GE128 := n4_; clear n0_ n1_ n2_ n3_ n4_; clear hb hbox hg; have hcz53_0 := bc3_0 BK128.out; have hcz53_1 := bc3_1 BK128.out; have hcz53_2 := bc3_2 BK128.out; have hfz53_0 := blk_frozen BK128.out 0; have hfz53_1 := blk_frozen BK128.out 1; have hfz53_2 := blk_frozen BK128.out 2; have p135 : 0 ≤ (((rd_T32 l0 x13_1).f0) : Int) := of_decide_eq_true (by first | (with_reducible assumption) | assumption); have q135 : ((rd_T32 l0 x13_1).f0) < (sizTabI.length : Int) := of_decide_eq_true (by first | (with_reducible assumption) | assumption); have ql135 : ((((rd_T32 l0 x13_1).f0) : Int) < (5 : Int)) = True := eq_true (of_decide_eq_true (by first | (with_reducible assumption) | assumption)); obtain ⟨ad135, e135, hx135_0⟩ := Kd.at_int HRGsiz.out ((rd_T32 l0 x13_1).f0) p135 q135; obtain rfl : (⟨0, 0, none⟩ : Addr) = ad135 := (by injection e135); (first | simp only [add_plain] at hx135_0 | simp only [add_at] at hx135_0 | simp only [Addr.add, Nat.zero_add] at hx135_0 | skip); have hn135_0 : (⟨0, 0, none⟩ : Addr).block ≠ gb128 := Nat.ne_of_lt (Nat.lt_of_lt_of_le (by have := World.block_lt_of_cell? _ _ hx135_0; first | rwa [add_block] at this | exact this) GW128.out); have hn135_1 : (⟨0, 0, none⟩ : Addr).block ≠ gb128 := Nat.ne_of_lt (Nat.lt_of_lt_of_le (by have := World.block_lt_of_cell? _ _ hx135_0; first | rwa [add_block] at this | exact this) GW128.out); have hn135_2 : (⟨0, 0, none⟩ : Addr).block ≠ gb128 := Nat.ne_of_lt (Nat.lt_of_lt_of_le (by have := World.block_lt_of_cell? _ _ hx135_0; first | rwa [add_block] at this | exact this) GW128.out); replace hx135_0 := (HB.out.cell (World.block_lt_of_cell? w _ hx135_0)).trans hx135_0; replace hx135_0 := (cell_far (p := ⟨gb128, 0, none⟩) (by first | (rw [add_block]; exact hn135_0) | (show (Addr.add _ _).block ≠ _; rw [add_block]; exact hn135_0) | exact hn135_0) (.int .i64 ((rd_T32 l0 x13_1).f0))).trans hx135_0; replace hx135_0 := (cell_far (p := ⟨gb128, 1, none⟩) (by first | (rw [add_block]; exact hn135_1) | (show (Addr.add _ _).block ≠ _; rw [add_block]; exact hn135_1) | exact hn135_1) (.int .u64 ((rd_T32 l0 x13_1).f1))).trans hx135_0; replace hx135_0 := (cell_far (p := ⟨gb128, 2, none⟩) (by first | (rw [add_block]; exact hn135_2) | (show (Addr.add _ _).block ≠ _; rw [add_block]; exact hn135_2) | exact hn135_2) (.string ((rd_T32 l0 x13_1).f2))).trans hx135_0; clear hn135_0; clear hn135_1; clear hn135_2; replace p135 := eq_true p135; replace q135 := eq_true q135))
                          go_ret2
                          exact ⟨er, bw⟩
                      · rw [if_neg c29] at H
                        exact absurd H (by simp)
                    · rw [if_neg c28] at H
                      exact absurd H (by simp)
            · rw [if_neg c5] at H
              exact absurd H (by simp)
          · rw [if_neg c4] at H
            exact absurd H (by simp)
        · rw [if_neg c3] at H
          have c3b0 : decide (x13_1 < (l0.length : Int)) = false := decide_eq_false c3
          clear c3
          simp only [Option.some.injEq, Prod.mk.injEq] at H
          obtain ⟨rfl, rfl⟩ := H
          have hcv54 := own_string (P := Tryd.prog) Tryd.underlying56 Tryd.underlying5 Tryd.underlying9 (Kd.own_of_R HO_4.out)
          go_wp2
          go_ret2
          exact ⟨er, bw⟩

/-! ### carillonlaw01_examples: function 10 -/
def carillonlaw01_examples.g (k : Nat)  : Option (Bool) := (codec_Encode.f k (([(⟨1, 1, (⟨#[]⟩ : ByteArray)⟩ : S32), (⟨2, 258, (⟨#[]⟩ : ByteArray)⟩ : S32), (⟨4, 0, (⟨#[97, 98]⟩ : ByteArray)⟩ : S32)] : List (S32)))).bind fun bt145 => ((codec_Decode.f k (⟨#[98, 119, 42, 116]⟩ : ByteArray) (⟨#[1, 0, 0, 1, 2]⟩ : ByteArray)).bind fun bt147 => ((codec_Decode.f k (⟨#[116]⟩ : ByteArray) (⟨#[0, 0, 0, 2, 97]⟩ : ByteArray)).bind fun bt151 => ((codec_Decode.f k (⟨#[98]⟩ : ByteArray) (⟨#[97, 98]⟩ : ByteArray)).bind fun bt155 => ((codec_Decode.f k (⟨#[120]⟩ : ByteArray) (⟨#[]⟩ : ByteArray)).bind fun bt159 => ((codec_Decode.f k (⟨#[98, 42]⟩ : ByteArray) (⟨#[97]⟩ : ByteArray)).bind fun bt163 => (if bt145.1.toList = ([1, 0, 0, 1, 2, 0, 0, 0, 2, 97, 98] : List UInt8) then (if bt145.2 = 0 then (if (bt147.1.length : Int) = 2 then (if bt147.2 = 0 then (if 1 < (bt147.1.length : Int) then (if ((rd_T32 bt147.1 1).f1) = 258 then (if bt151.2 = 2 then (if bt155.2 = 10 then (if bt159.2 = 1 then (some (bt163.2 == 1)) else (some false)) else (some false)) else (some false)) else (some false)) else (none)) else (some false)) else (some false)) else (some false)) else (some false)))))))
theorem carillonlaw01_examples.mono : ∀ k, LeO (carillonlaw01_examples.g k ) (carillonlaw01_examples.g (k + 1) ) := by
  intro  k
  unfold carillonlaw01_examples.g
  repeat' first
      | (with_reducible exact codec_Decode.mono _ _ _)
      | (with_reducible exact codec_Encode.mono _ _)
      | (with_reducible exact LeO.refl _)
      | (with_reducible exact LeO.none _)
      | (with_reducible refine LeO.ite ?_ ?_)
      | (with_reducible refine LeO.bind ?_ (fun _ => ?_))
      | exact codec_Decode.mono _ _ _
      | exact codec_Encode.mono _ _
      | exact LeO.none _
      | refine LeO.ite ?_ ?_
      | refine LeO.bind ?_ (fun _ => ?_)
set_option maxHeartbeats 8000000 in
set_option maxRecDepth 100000 in
theorem carillonlaw01_examples.calls0 (k : Nat)  (r : Bool) (w : World) (hr_ : Aside0 (r = true)) (HT_ : TabOk w) (h : carillonlaw01_examples.g k  = some r) :
    Calls Tryd.prog 10 #[] w fun e w' => e = .returned (.bool r) ∧ Below w.heap.size w w' := by
  have HT := Aside0.mk HT_
  clear HT_
  have hu32 := Tryd.underlying32
  have HB := Aside0.mk (Below.refl w.heap.size w)
  have H : ((codec_Encode.f k (([(⟨1, 1, (⟨#[]⟩ : ByteArray)⟩ : S32), (⟨2, 258, (⟨#[]⟩ : ByteArray)⟩ : S32), (⟨4, 0, (⟨#[97, 98]⟩ : ByteArray)⟩ : S32)] : List (S32)))).bind fun bt145 => ((codec_Decode.f k (⟨#[98, 119, 42, 116]⟩ : ByteArray) (⟨#[1, 0, 0, 1, 2]⟩ : ByteArray)).bind fun bt147 => ((codec_Decode.f k (⟨#[116]⟩ : ByteArray) (⟨#[0, 0, 0, 2, 97]⟩ : ByteArray)).bind fun bt151 => ((codec_Decode.f k (⟨#[98]⟩ : ByteArray) (⟨#[97, 98]⟩ : ByteArray)).bind fun bt155 => ((codec_Decode.f k (⟨#[120]⟩ : ByteArray) (⟨#[]⟩ : ByteArray)).bind fun bt159 => ((codec_Decode.f k (⟨#[98, 42]⟩ : ByteArray) (⟨#[97]⟩ : ByteArray)).bind fun bt163 => (if bt145.1.toList = ([1, 0, 0, 1, 2, 0, 0, 0, 2, 97, 98] : List UInt8) then (if bt145.2 = 0 then (if (bt147.1.length : Int) = 2 then (if bt147.2 = 0 then (if 1 < (bt147.1.length : Int) then (if ((rd_T32 bt147.1 1).f1) = 258 then (if bt151.2 = 2 then (if bt155.2 = 10 then (if bt159.2 = 1 then (some (bt163.2 == 1)) else (some false)) else (some false)) else (some false)) else (some false)) else (none)) else (some false)) else (some false)) else (some false)) else (some false)))))))) = some r := h
  clear h
  obtain ⟨y142, hy142⟩ : ∃ y_ : List (S32), y_ = (([(⟨1, 1, (⟨#[]⟩ : ByteArray)⟩ : S32), (⟨2, 258, (⟨#[]⟩ : ByteArray)⟩ : S32), (⟨4, 0, (⟨#[97, 98]⟩ : ByteArray)⟩ : S32)] : List (S32))) := ⟨_, rfl⟩
  replace H : ((codec_Encode.f k y142).bind fun bt145 => ((codec_Decode.f k (⟨#[98, 119, 42, 116]⟩ : ByteArray) (⟨#[1, 0, 0, 1, 2]⟩ : ByteArray)).bind fun bt147 => ((codec_Decode.f k (⟨#[116]⟩ : ByteArray) (⟨#[0, 0, 0, 2, 97]⟩ : ByteArray)).bind fun bt151 => ((codec_Decode.f k (⟨#[98]⟩ : ByteArray) (⟨#[97, 98]⟩ : ByteArray)).bind fun bt155 => ((codec_Decode.f k (⟨#[120]⟩ : ByteArray) (⟨#[]⟩ : ByteArray)).bind fun bt159 => ((codec_Decode.f k (⟨#[98, 42]⟩ : ByteArray) (⟨#[97]⟩ : ByteArray)).bind fun bt163 => (if bt145.1.toList = ([1, 0, 0, 1, 2, 0, 0, 0, 2, 97, 98] : List UInt8) then (if bt145.2 = 0 then (if (bt147.1.length : Int) = 2 then (if bt147.2 = 0 then (if 1 < (bt147.1.length : Int) then (if ((rd_T32 bt147.1 1).f1) = 258 then (if bt151.2 = 2 then (if bt155.2 = 10 then (if bt159.2 = 1 then (some (bt163.2 == 1)) else (some false)) else (some false)) else (some false)) else (some false)) else (none)) else (some false)) else (some false)) else (some false)) else (some false)))))))) = some r := by first | (rw [hy142]; with_reducible exact H) | (have H2_ := (Option.bind_some _ _).symm.trans H; rw [hy142]; with_reducible exact H2_) | (have H2_ := (Option.bind_some _ _).symm.trans H; with_reducible exact H2_) | with_reducible exact H | (rw [hy142]; exact H) | exact H
  have Ny142 := Aside0.mk hy142
  clear hy142
  replace H := Option.bind_eq_some_iff.mp H
  obtain ⟨⟨t145, t146⟩, A10, H⟩ := H
  replace H : ((codec_Decode.f k (⟨#[98, 119, 42, 116]⟩ : ByteArray) (⟨#[1, 0, 0, 1, 2]⟩ : ByteArray)).bind fun bt147 => ((codec_Decode.f k (⟨#[116]⟩ : ByteArray) (⟨#[0, 0, 0, 2, 97]⟩ : ByteArray)).bind fun bt151 => ((codec_Decode.f k (⟨#[98]⟩ : ByteArray) (⟨#[97, 98]⟩ : ByteArray)).bind fun bt155 => ((codec_Decode.f k (⟨#[120]⟩ : ByteArray) (⟨#[]⟩ : ByteArray)).bind fun bt159 => ((codec_Decode.f k (⟨#[98, 42]⟩ : ByteArray) (⟨#[97]⟩ : ByteArray)).bind fun bt163 => (if t145.toList = ([1, 0, 0, 1, 2, 0, 0, 0, 2, 97, 98] : List UInt8) then (if t146 = 0 then (if (bt147.1.length : Int) = 2 then (if bt147.2 = 0 then (if 1 < (bt147.1.length : Int) then (if ((rd_T32 bt147.1 1).f1) = 258 then (if bt151.2 = 2 then (if bt155.2 = 10 then (if bt159.2 = 1 then (some (bt163.2 == 1)) else (some false)) else (some false)) else (some false)) else (some false)) else (none)) else (some false)) else (some false)) else (some false)) else (some false))))))) = some r := H
  have A1 := Aside0.mk A10
  clear A10
  replace H := Option.bind_eq_some_iff.mp H
  obtain ⟨⟨t147, t148⟩, A20, H⟩ := H
  replace H : ((codec_Decode.f k (⟨#[116]⟩ : ByteArray) (⟨#[0, 0, 0, 2, 97]⟩ : ByteArray)).bind fun bt151 => ((codec_Decode.f k (⟨#[98]⟩ : ByteArray) (⟨#[97, 98]⟩ : ByteArray)).bind fun bt155 => ((codec_Decode.f k (⟨#[120]⟩ : ByteArray) (⟨#[]⟩ : ByteArray)).bind fun bt159 => ((codec_Decode.f k (⟨#[98, 42]⟩ : ByteArray) (⟨#[97]⟩ : ByteArray)).bind fun bt163 => (if t145.toList = ([1, 0, 0, 1, 2, 0, 0, 0, 2, 97, 98] : List UInt8) then (if t146 = 0 then (if (t147.length : Int) = 2 then (if t148 = 0 then (if 1 < (t147.length : Int) then (if ((rd_T32 t147 1).f1) = 258 then (if bt151.2 = 2 then (if bt155.2 = 10 then (if bt159.2 = 1 then (some (bt163.2 == 1)) else (some false)) else (some false)) else (some false)) else (some false)) else (none)) else (some false)) else (some false)) else (some false)) else (some false)))))) = some r := H
  have A2 := Aside0.mk A20
  clear A20
  replace H := Option.bind_eq_some_iff.mp H
  obtain ⟨⟨t151, t152⟩, A30, H⟩ := H
  replace H : ((codec_Decode.f k (⟨#[98]⟩ : ByteArray) (⟨#[97, 98]⟩ : ByteArray)).bind fun bt155 => ((codec_Decode.f k (⟨#[120]⟩ : ByteArray) (⟨#[]⟩ : ByteArray)).bind fun bt159 => ((codec_Decode.f k (⟨#[98, 42]⟩ : ByteArray) (⟨#[97]⟩ : ByteArray)).bind fun bt163 => (if t145.toList = ([1, 0, 0, 1, 2, 0, 0, 0, 2, 97, 98] : List UInt8) then (if t146 = 0 then (if (t147.length : Int) = 2 then (if t148 = 0 then (if 1 < (t147.length : Int) then (if ((rd_T32 t147 1).f1) = 258 then (if t152 = 2 then (if bt155.2 = 10 then (if bt159.2 = 1 then (some (bt163.2 == 1)) else (some false)) else (some false)) else (some false)) else (some false)) else (none)) else (some false)) else (some false)) else (some false)) else (some false))))) = some r := H
  have A3 := Aside0.mk A30
  clear A30
  replace H := Option.bind_eq_some_iff.mp H
  obtain ⟨⟨t155, t156⟩, A40, H⟩ := H
  replace H : ((codec_Decode.f k (⟨#[120]⟩ : ByteArray) (⟨#[]⟩ : ByteArray)).bind fun bt159 => ((codec_Decode.f k (⟨#[98, 42]⟩ : ByteArray) (⟨#[97]⟩ : ByteArray)).bind fun bt163 => (if t145.toList = ([1, 0, 0, 1, 2, 0, 0, 0, 2, 97, 98] : List UInt8) then (if t146 = 0 then (if (t147.length : Int) = 2 then (if t148 = 0 then (if 1 < (t147.length : Int) then (if ((rd_T32 t147 1).f1) = 258 then (if t152 = 2 then (if t156 = 10 then (if bt159.2 = 1 then (some (bt163.2 == 1)) else (some false)) else (some false)) else (some false)) else (some false)) else (none)) else (some false)) else (some false)) else (some false)) else (some false)))) = some r := H
  have A4 := Aside0.mk A40
  clear A40
  replace H := Option.bind_eq_some_iff.mp H
  obtain ⟨⟨t159, t160⟩, A50, H⟩ := H
  replace H : ((codec_Decode.f k (⟨#[98, 42]⟩ : ByteArray) (⟨#[97]⟩ : ByteArray)).bind fun bt163 => (if t145.toList = ([1, 0, 0, 1, 2, 0, 0, 0, 2, 97, 98] : List UInt8) then (if t146 = 0 then (if (t147.length : Int) = 2 then (if t148 = 0 then (if 1 < (t147.length : Int) then (if ((rd_T32 t147 1).f1) = 258 then (if t152 = 2 then (if t156 = 10 then (if t160 = 1 then (some (bt163.2 == 1)) else (some false)) else (some false)) else (some false)) else (some false)) else (none)) else (some false)) else (some false)) else (some false)) else (some false))) = some r := H
  have A5 := Aside0.mk A50
  clear A50
  replace H := Option.bind_eq_some_iff.mp H
  obtain ⟨⟨t163, t164⟩, A60, H⟩ := H
  replace H : (if t145.toList = ([1, 0, 0, 1, 2, 0, 0, 0, 2, 97, 98] : List UInt8) then (if t146 = 0 then (if (t147.length : Int) = 2 then (if t148 = 0 then (if 1 < (t147.length : Int) then (if ((rd_T32 t147 1).f1) = 258 then (if t152 = 2 then (if t156 = 10 then (if t160 = 1 then (some (t164 == 1)) else (some false)) else (some false)) else (some false)) else (some false)) else (none)) else (some false)) else (some false)) else (some false)) else (some false)) = some r := H
  have A6 := Aside0.mk A60
  clear A60
  by_cases c7 : t145.toList = ([1, 0, 0, 1, 2, 0, 0, 0, 2, 97, 98] : List UInt8)
  · rw [if_pos c7] at H
    have c7b0 : (t145.toList == ([1, 0, 0, 1, 2, 0, 0, 0, 2, 97, 98] : List UInt8)) = true := beq_iff_eq.mpr c7
    have c7b1 : (t145.toList != ([1, 0, 0, 1, 2, 0, 0, 0, 2, 97, 98] : List UInt8)) = false := bne_eq_false_iff_eq.mpr c7
    clear c7
    by_cases c8 : t146 = 0
    · rw [if_pos c8] at H
      have c8b0 : (t146 == 0) = true := beq_iff_eq.mpr c8
      have c8b1 : (t146 != 0) = false := bne_eq_false_iff_eq.mpr c8
      clear c8
      by_cases c9 : (t147.length : Int) = 2
      · rw [if_pos c9] at H
        have c9b0 : ((t147.length : Int) == 2) = true := beq_iff_eq.mpr c9
        have c9b1 : ((t147.length : Int) != 2) = false := bne_eq_false_iff_eq.mpr c9
        clear c9
        by_cases c10 : t148 = 0
        · rw [if_pos c10] at H
          have c10b0 : (t148 == 0) = true := beq_iff_eq.mpr c10
          have c10b1 : (t148 != 0) = false := bne_eq_false_iff_eq.mpr c10
          clear c10
          by_cases c11 : 1 < (t147.length : Int)
          · rw [if_pos c11] at H
            have c11b0 : decide (1 < (t147.length : Int)) = true := decide_eq_true c11
            have c11b1 : decide (1 < t147.length) = true := decide_eq_true (by omega)
            clear c11
            by_cases c12 : ((rd_T32 t147 1).f1) = 258
            · rw [if_pos c12] at H
              have c12b0 : (((rd_T32 t147 1).f1) == 258) = true := beq_iff_eq.mpr c12
              have c12b1 : (((rd_T32 t147 1).f1) != 258) = false := bne_eq_false_iff_eq.mpr c12
              clear c12
              by_cases c13 : t152 = 2
              · rw [if_pos c13] at H
                have c13b0 : (t152 == 2) = true := beq_iff_eq.mpr c13
                have c13b1 : (t152 != 2) = false := bne_eq_false_iff_eq.mpr c13
                clear c13
                by_cases c14 : t156 = 10
                · rw [if_pos c14] at H
                  have c14b0 : (t156 == 10) = true := beq_iff_eq.mpr c14
                  have c14b1 : (t156 != 10) = false := bne_eq_false_iff_eq.mpr c14
                  clear c14
                  by_cases c15 : t160 = 1
                  · rw [if_pos c15] at H
                    have c15b0 : (t160 == 1) = true := beq_iff_eq.mpr c15
                    have c15b1 : (t160 != 1) = false := bne_eq_false_iff_eq.mpr c15
                    clear c15
                    obtain rfl := Option.some.inj H
                    go_enter Tryd.func10, Tryd.ntmps10
                    go_wp2_with (first | ((with_reducible refine gate_dst (N := 17) rfl ?_); (try (refine gate_guard (by rfl) ?_; dsimp only)); refine Kd.R_lit k32 _ 32 ?hg (N := 17) ?hd (xs := ([(⟨1, 1, (⟨#[]⟩ : ByteArray)⟩ : S32), (⟨2, 258, (⟨#[]⟩ : ByteArray)⟩ : S32), (⟨4, 0, (⟨#[97, 98]⟩ : ByteArray)⟩ : S32)] : List (S32))) (inner := [.int .i64 1, .int .u64 1, .string (⟨#[]⟩ : ByteArray), .int .i64 2, .int .u64 258, .string (⟨#[]⟩ : ByteArray), .int .i64 4, .int .u64 0, .string (⟨#[97, 98]⟩ : ByteArray)]) (ok := fun _ => True) (okp := fun _ => True) ?hr ?hp (fun _ hk => hk) trivial (Below.refl _ _) (Nat.le_refl _) (by simp) ?_; (case hd => rfl); (case hg => rfl); (case hr => first | (go_simp; done) | (go_simp; rfl)); (case hp => exact (Reps.c3 (show Kd.M k32 _ _ _ (⟨1, 1, (⟨#[]⟩ : ByteArray)⟩ : S32) [.int .i64 1, .int .u64 1, .string (⟨#[]⟩ : ByteArray)] from (k32_mkM _ _ _ (⟨1, 1, (⟨#[]⟩ : ByteArray)⟩ : S32) )) (Reps.c3 (show Kd.M k32 _ _ _ (⟨2, 258, (⟨#[]⟩ : ByteArray)⟩ : S32) [.int .i64 2, .int .u64 258, .string (⟨#[]⟩ : ByteArray)] from (k32_mkM _ _ _ (⟨2, 258, (⟨#[]⟩ : ByteArray)⟩ : S32) )) (Reps.c3 (show Kd.M k32 _ _ _ (⟨4, 0, (⟨#[97, 98]⟩ : ByteArray)⟩ : S32) [.int .i64 4, .int .u64 0, .string (⟨#[97, 98]⟩ : ByteArray)] from (k32_mkM _ _ _ (⟨4, 0, (⟨#[97, 98]⟩ : ByteArray)⟩ : S32) )) (Reps.none _ _))))); intro v143 w16 ho17 hb hg_ hnew_; clear hg_ hnew_; (first | rw [← Ny142.out] at ho17 | (simp only [Int.reduceToNat] at ho17; rw [← Ny142.out] at ho17)); have n0_ := Aside0.mk (Kd.R_lower ho17 (below_size bw)); have n1_ := Aside0.mk (below_step bw hb); clear HB; have HO144 := n0_; have HB := n1_; clear n0_ n1_; clear hb ho17; obtain ⟨Ao18, co18, eo18⟩ := Kd.R_slice HO144.out; subst eo18) | ((with_reducible refine gate_callee (f := 14) rfl ?_); refine goesL_ (some 18) rfl rfl Tryd.func14 (by kernel_rfl) rfl #[.slice Ao18 y142.length co18] rfl am ?_; (with_reducible refine (codec_Encode.calls k _ _ y142 t145 t146 _ ?side1 ?side2 tbk A1.out).mono ?_); (case side1 => repeat (first | exact (Kd.R_reads' HO144.out).2.2 | (with_reducible refine Kd.C_alloc ?_ _) | (with_reducible refine Kd.C_drewN ?_ _) | (with_reducible refine Kd.C_drew ?_))); (case side2 => exact (Kd.R_reads' HO144.out).2.1); rintro e w19 ⟨rfl, hb⟩; refine ⟨_, rfl, ?_⟩; have n0_ := Aside0.mk (Kd.R_below (by (with_reducible repeat (first | apply Kd.R_alloc | apply Kd.R_drewN | apply Kd.R_drew)); exact HO144.out) hb); have n1_ := Aside0.mk (below_step bw hb); clear HO144; clear HB; have HO144 := n0_; have HB := n1_; clear n0_ n1_; (try clear hb); (try clear hb2); (try clear hk); (try clear hi)) | ((with_reducible refine gate_callee (f := 12) rfl ?_); refine goesL_ (some 22) rfl rfl Tryd.func12 (by kernel_rfl) rfl #[.string (⟨#[98, 119, 42, 116]⟩ : ByteArray), .string (⟨#[1, 0, 0, 1, 2]⟩ : ByteArray)] rfl am ?_; (with_reducible refine (codec_Decode.calls k (⟨#[98, 119, 42, 116]⟩ : ByteArray) (⟨#[1, 0, 0, 1, 2]⟩ : ByteArray) t147 t148 _ tbk A2.out).mono ?_); rintro e w20 ⟨v149, rfl, ho0, hb⟩; refine ⟨_, rfl, ?_⟩; have n0_ := Aside0.mk (Kd.R_elder' (by (with_reducible repeat (first | apply Kd.R_alloc | apply Kd.R_drewN | apply Kd.R_drew)); exact HO144.out) (Kd.R_base ho0) hb); have n1_ := Aside0.mk (Kd.R_lower (Kd.R_new' ho0 (Kd.R_lt (by (with_reducible repeat (first | apply Kd.R_alloc | apply Kd.R_drewN | apply Kd.R_drew)); exact HO144.out))) (below_size bw)); have n2_ := Aside0.mk (below_step bw hb); clear HO144; clear HB; have HO144 := n0_; have HO150 := n1_; have HB := n2_; clear n0_ n1_ n2_; (try clear hb); (try clear hb2); (try clear hk); (try clear hi); (try clear ho0)) | ((with_reducible refine gate_callee (f := 12) rfl ?_); refine goesL_ (some 26) rfl rfl Tryd.func12 (by kernel_rfl) rfl #[.string (⟨#[116]⟩ : ByteArray), .string (⟨#[0, 0, 0, 2, 97]⟩ : ByteArray)] rfl am ?_; (with_reducible refine (codec_Decode.calls k (⟨#[116]⟩ : ByteArray) (⟨#[0, 0, 0, 2, 97]⟩ : ByteArray) t151 t152 _ tbk A3.out).mono ?_); rintro e w21 ⟨v153, rfl, ho0, hb⟩; refine ⟨_, rfl, ?_⟩; have n0_ := Aside0.mk (Kd.R_elder' (by (with_reducible repeat (first | apply Kd.R_alloc | apply Kd.R_drewN | apply Kd.R_drew)); exact HO144.out) (Kd.R_base ho0) hb); have n1_ := Aside0.mk (Kd.R_elder' (by (with_reducible repeat (first | apply Kd.R_alloc | apply Kd.R_drewN | apply Kd.R_drew)); exact HO150.out) (Kd.R_base ho0) hb); have n2_ := Aside0.mk (Kd.R_lower (Kd.R_new' (Kd.R_new' ho0 (Kd.R_lt (by (with_reducible repeat (first | apply Kd.R_alloc | apply Kd.R_drewN | apply Kd.R_drew)); exact HO144.out))) (Kd.R_lt (by (with_reducible repeat (first | apply Kd.R_alloc | apply Kd.R_drewN | apply Kd.R_drew)); exact HO150.out))) (below_size bw)); have n3_ := Aside0.mk (below_step bw hb); clear HO144; clear HO150; clear HB; have HO144 := n0_; have HO150 := n1_; have HO154 := n2_; have HB := n3_; clear n0_ n1_ n2_ n3_; (try clear hb); (try clear hb2); (try clear hk); (try clear hi); (try clear ho0)) | ((with_reducible refine gate_callee (f := 12) rfl ?_); refine goesL_ (some 30) rfl rfl Tryd.func12 (by kernel_rfl) rfl #[.string (⟨#[98]⟩ : ByteArray), .string (⟨#[97, 98]⟩ : ByteArray)] rfl am ?_; (with_reducible refine (codec_Decode.calls k (⟨#[98]⟩ : ByteArray) (⟨#[97, 98]⟩ : ByteArray) t155 t156 _ tbk A4.out).mono ?_); rintro e w22 ⟨v157, rfl, ho0, hb⟩; refine ⟨_, rfl, ?_⟩; have n0_ := Aside0.mk (Kd.R_elder' (by (with_reducible repeat (first | apply Kd.R_alloc | apply Kd.R_drewN | apply Kd.R_drew)); exact HO144.out) (Kd.R_base ho0) hb); have n1_ := Aside0.mk (Kd.R_elder' (by (with_reducible repeat (first | apply Kd.R_alloc | apply Kd.R_drewN | apply Kd.R_drew)); exact HO150.out) (Kd.R_base ho0) hb); have n2_ := Aside0.mk (Kd.R_elder' (by (with_reducible repeat (first | apply Kd.R_alloc | apply Kd.R_drewN | apply Kd.R_drew)); exact HO154.out) (Kd.R_base ho0) hb); have n3_ := Aside0.mk (Kd.R_lower (Kd.R_new' (Kd.R_new' (Kd.R_new' ho0 (Kd.R_lt (by (with_reducible repeat (first | apply Kd.R_alloc | apply Kd.R_drewN | apply Kd.R_drew)); exact HO144.out))) (Kd.R_lt (by (with_reducible repeat (first | apply Kd.R_alloc | apply Kd.R_drewN | apply Kd.R_drew)); exact HO150.out))) (Kd.R_lt (by (with_reducible repeat (first | apply Kd.R_alloc | apply Kd.R_drewN | apply Kd.R_drew)); exact HO154.out))) (below_size bw)); have n4_ := Aside0.mk (below_step bw hb); clear HO144; clear HO150; clear HO154; clear HB; have HO144 := n0_; have HO150 := n1_; have HO154 := n2_; have HO158 := n3_; have HB := n4_; clear n0_ n1_ n2_ n3_ n4_; (try clear hb); (try clear hb2); (try clear hk); (try clear hi); (try clear ho0)) | ((with_reducible refine gate_callee (f := 12) rfl ?_); refine goesL_ (some 34) rfl rfl Tryd.func12 (by kernel_rfl) rfl #[.string (⟨#[120]⟩ : ByteArray), .string (⟨#[]⟩ : ByteArray)] rfl am ?_; (with_reducible refine (codec_Decode.calls k (⟨#[120]⟩ : ByteArray) (⟨#[]⟩ : ByteArray) t159 t160 _ tbk A5.out).mono ?_); rintro e w23 ⟨v161, rfl, ho0, hb⟩; refine ⟨_, rfl, ?_⟩; have n0_ := Aside0.mk (Kd.R_elder' (by (with_reducible repeat (first | apply Kd.R_alloc | apply Kd.R_drewN | apply Kd.R_drew)); exact HO144.out) (Kd.R_base ho0) hb); have n1_ := Aside0.mk (Kd.R_elder' (by (with_reducible repeat (first | apply Kd.R_alloc | apply Kd.R_drewN | apply Kd.R_drew)); exact HO150.out) (Kd.R_base ho0) hb); have n2_ := Aside0.mk (Kd.R_elder' (by (with_reducible repeat (first | apply Kd.R_alloc | apply Kd.R_drewN | apply Kd.R_drew)); exact HO154.out) (Kd.R_base ho0) hb); have n3_ := Aside0.mk (Kd.R_elder' (by (with_reducible repeat (first | apply Kd.R_alloc | apply Kd.R_drewN | apply Kd.R_drew)); exact HO158.out) (Kd.R_base ho0) hb); have n4_ := Aside0.mk (Kd.R_lower (Kd.R_new' (Kd.R_new' (Kd.R_new' (Kd.R_new' ho0 (Kd.R_lt (by (with_reducible repeat (first | apply Kd.R_alloc | apply Kd.R_drewN | apply Kd.R_drew)); exact HO144.out))) (Kd.R_lt (by (with_reducible repeat (first | apply Kd.R_alloc | apply Kd.R_drewN | apply Kd.R_drew)); exact HO150.out))) (Kd.R_lt (by (with_reducible repeat (first | apply Kd.R_alloc | apply Kd.R_drewN | apply Kd.R_drew)); exact HO154.out))) (Kd.R_lt (by (with_reducible repeat (first | apply Kd.R_alloc | apply Kd.R_drewN | apply Kd.R_drew)); exact HO158.out))) (below_size bw)); have n5_ := Aside0.mk (below_step bw hb); clear HO144; clear HO150; clear HO154; clear HO158; clear HB; have HO144 := n0_; have HO150 := n1_; have HO154 := n2_; have HO158 := n3_; have HO162 := n4_; have HB := n5_; clear n0_ n1_ n2_ n3_ n4_ n5_; (try clear hb); (try clear hb2); (try clear hk); (try clear hi); (try clear ho0)) | ((with_reducible refine gate_callee (f := 12) rfl ?_); refine goesL_ (some 38) rfl rfl Tryd.func12 (by kernel_rfl) rfl #[.string (⟨#[98, 42]⟩ : ByteArray), .string (⟨#[97]⟩ : ByteArray)] rfl am ?_; (with_reducible refine (codec_Decode.calls k (⟨#[98, 42]⟩ : ByteArray) (⟨#[97]⟩ : ByteArray) t163 t164 _ tbk A6.out).mono ?_); rintro e w24 ⟨v165, rfl, ho0, hb⟩; refine ⟨_, rfl, ?_⟩; have n0_ := Aside0.mk (Kd.R_elder' (by (with_reducible repeat (first | apply Kd.R_alloc | apply Kd.R_drewN | apply Kd.R_drew)); exact HO144.out) (Kd.R_base ho0) hb); have n1_ := Aside0.mk (Kd.R_elder' (by (with_reducible repeat (first | apply Kd.R_alloc | apply Kd.R_drewN | apply Kd.R_drew)); exact HO150.out) (Kd.R_base ho0) hb); have n2_ := Aside0.mk (Kd.R_elder' (by (with_reducible repeat (first | apply Kd.R_alloc | apply Kd.R_drewN | apply Kd.R_drew)); exact HO154.out) (Kd.R_base ho0) hb); have n3_ := Aside0.mk (Kd.R_elder' (by (with_reducible repeat (first | apply Kd.R_alloc | apply Kd.R_drewN | apply Kd.R_drew)); exact HO158.out) (Kd.R_base ho0) hb); have n4_ := Aside0.mk (Kd.R_elder' (by (with_reducible repeat (first | apply Kd.R_alloc | apply Kd.R_drewN | apply Kd.R_drew)); exact HO162.out) (Kd.R_base ho0) hb); have n5_ := Aside0.mk (Kd.R_lower (Kd.R_new' (Kd.R_new' (Kd.R_new' (Kd.R_new' (Kd.R_new' ho0 (Kd.R_lt (by (with_reducible repeat (first | apply Kd.R_alloc | apply Kd.R_drewN | apply Kd.R_drew)); exact HO144.out))) (Kd.R_lt (by (with_reducible repeat (first | apply Kd.R_alloc | apply Kd.R_drewN | apply Kd.R_drew)); exact HO150.out))) (Kd.R_lt (by (with_reducible repeat (first | apply Kd.R_alloc | apply Kd.R_drewN | apply Kd.R_drew)); exact HO154.out))) (Kd.R_lt (by (with_reducible repeat (first | apply Kd.R_alloc | apply Kd.R_drewN | apply Kd.R_drew)); exact HO158.out))) (Kd.R_lt (by (with_reducible repeat (first | apply Kd.R_alloc | apply Kd.R_drewN | apply Kd.R_drew)); exact HO162.out))) (below_size bw)); have n6_ := Aside0.mk (below_step bw hb); clear HO144; clear HO150; clear HO154; clear HO158; clear HO162; clear HB; have HO144 := n0_; have HO150 := n1_; have HO154 := n2_; have HO158 := n3_; have HO162 := n4_; have HO166 := n5_; have HB := n6_; clear n0_ n1_ n2_ n3_ n4_ n5_ n6_; (try clear hb); (try clear hb2); (try clear hk); (try clear hi); (try clear ho0); obtain ⟨Ao25, co25, eo25⟩ := Kd.R_slice HO150.out; subst eo25; have p167 : 0 ≤ (1 : Int) := (by omega); have q167 : 1 < (t147.length : Int) := of_decide_eq_true (by first | (with_reducible assumption) | assumption); obtain ⟨ad167, e167, hx167_0, hx167_1, hx167_2⟩ := at_T32 (Kd.R_reads' HO150.out).2.2 1 p167 q167; cases e167; (try simp only [show (1 : Int).toNat = 1 from rfl, Nat.reduceMul, Nat.reduceEqDiff, Go.Addr.add, ↓reduceIte] at hx167_0); (try simp only [show (1 : Int).toNat = 1 from rfl, Nat.reduceMul, Nat.reduceEqDiff, Go.Addr.add, ↓reduceIte] at hx167_1); (try simp only [show (1 : Int).toNat = 1 from rfl, Nat.reduceMul, Nat.reduceEqDiff, Go.Addr.add, ↓reduceIte] at hx167_2); have qi167 : (1 < t147.length) = True := eq_true (by omega); (try rw [show ((1 : Int)).toNat = 1 from rfl] at hx167_0); (try rw [show 1 * 3 = 3 from rfl] at hx167_0); (try rw [show ((1 : Int)).toNat = 1 from rfl] at hx167_1); (try rw [show 1 * 3 = 3 from rfl] at hx167_1); (try rw [show ((1 : Int)).toNat = 1 from rfl] at hx167_2); (try rw [show 1 * 3 = 3 from rfl] at hx167_2); replace p167 := eq_true p167; replace q167 := eq_true q167))
                    go_ret
                    exact ⟨er, bw⟩
                  · rw [if_neg c15] at H
                    have c15b0 : (t160 == 1) = false := beq_eq_false_iff_ne.mpr c15
                    have c15b1 : (t160 != 1) = true := bne_iff_ne.mpr c15
                    exact absurd ((Option.some.inj H).trans hr_.out) (by decide)
                · rw [if_neg c14] at H
                  have c14b0 : (t156 == 10) = false := beq_eq_false_iff_ne.mpr c14
                  have c14b1 : (t156 != 10) = true := bne_iff_ne.mpr c14
                  exact absurd ((Option.some.inj H).trans hr_.out) (by decide)
              · rw [if_neg c13] at H
                have c13b0 : (t152 == 2) = false := beq_eq_false_iff_ne.mpr c13
                have c13b1 : (t152 != 2) = true := bne_iff_ne.mpr c13
                exact absurd ((Option.some.inj H).trans hr_.out) (by decide)
            · rw [if_neg c12] at H
              have c12b0 : (((rd_T32 t147 1).f1) == 258) = false := beq_eq_false_iff_ne.mpr c12
              have c12b1 : (((rd_T32 t147 1).f1) != 258) = true := bne_iff_ne.mpr c12
              exact absurd ((Option.some.inj H).trans hr_.out) (by decide)
          · rw [if_neg c11] at H
            exact absurd H (by simp)
        · rw [if_neg c10] at H
          have c10b0 : (t148 == 0) = false := beq_eq_false_iff_ne.mpr c10
          have c10b1 : (t148 != 0) = true := bne_iff_ne.mpr c10
          exact absurd ((Option.some.inj H).trans hr_.out) (by decide)
      · rw [if_neg c9] at H
        have c9b0 : ((t147.length : Int) == 2) = false := beq_eq_false_iff_ne.mpr c9
        have c9b1 : ((t147.length : Int) != 2) = true := bne_iff_ne.mpr c9
        exact absurd ((Option.some.inj H).trans hr_.out) (by decide)
    · rw [if_neg c8] at H
      have c8b0 : (t146 == 0) = false := beq_eq_false_iff_ne.mpr c8
      have c8b1 : (t146 != 0) = true := bne_iff_ne.mpr c8
      exact absurd ((Option.some.inj H).trans hr_.out) (by decide)
  · rw [if_neg c7] at H
    have c7b0 : (t145.toList == ([1, 0, 0, 1, 2, 0, 0, 0, 2, 97, 98] : List UInt8)) = false := beq_eq_false_iff_ne.mpr c7
    have c7b1 : (t145.toList != ([1, 0, 0, 1, 2, 0, 0, 0, 2, 97, 98] : List UInt8)) = true := bne_iff_ne.mpr c7
    exact absurd ((Option.some.inj H).trans hr_.out) (by decide)
theorem carillonlaw01_examples.g_true : carillonlaw01_examples.g 300 = some true := by kernel_rfl
def carillonlaw01_examples.f : Option (Bool) := some true
theorem carillonlaw01_examples.calls (r : Bool) (w : World) (HT_ : TabOk w) (h : carillonlaw01_examples.f = some r) :
    Calls Tryd.prog 10 #[] w fun e w' => e = .returned (.bool r) ∧ Below w.heap.size w w' := by
  obtain rfl := Option.some.inj h
  exact carillonlaw01_examples.calls0 _ true w ⟨rfl⟩ HT_ carillonlaw01_examples.g_true

/-! ### carillonref01_kindOf: function 36 -/
def carillonref01_kindOf.f (a0 : Int) : Option (Int) := if a0 = 98 then (some 1) else (if a0 = 119 then (some 2) else (if a0 = 108 then (some 3) else (if a0 = 116 then (some 4) else (some 0))))
set_option maxHeartbeats 8000000 in
set_option maxRecDepth 100000 in
theorem carillonref01_kindOf.calls (a0 : Int) (r : Int) (w : World) (h : carillonref01_kindOf.f a0 = some r) :
    Calls Tryd.prog 36 #[.int .u8 a0] w fun e w' => e = .returned (.int .i64 r) ∧ Drawn0 w w' := by
  have H : (if a0 = 98 then (some 1) else (if a0 = 119 then (some 2) else (if a0 = 108 then (some 3) else (if a0 = 116 then (some 4) else (some 0))))) = some r := h
  clear h
  by_cases c2 : a0 = 98
  · rw [if_pos c2] at H
    have c2b0 : (a0 == 98) = true := beq_iff_eq.mpr c2
    have c2b1 : (a0 != 98) = false := bne_eq_false_iff_eq.mpr c2
    clear c2
    obtain rfl := Option.some.inj H
    go_enter Tryd.func36, Tryd.ntmps36
    go_wp2
    go_ret
    exact ⟨by first | rfl | (simp; done) | (simp [*]; done), by repeat (first | exact Drawn0.refl _ | apply Drawn0.step)⟩
  · rw [if_neg c2] at H
    have c2b0 : (a0 == 98) = false := beq_eq_false_iff_ne.mpr c2
    have c2b1 : (a0 != 98) = true := bne_iff_ne.mpr c2
    by_cases c3 : a0 = 119
    · rw [if_pos c3] at H
      have c3b0 : (a0 == 119) = true := beq_iff_eq.mpr c3
      have c3b1 : (a0 != 119) = false := bne_eq_false_iff_eq.mpr c3
      clear c3
      obtain rfl := Option.some.inj H
      go_enter Tryd.func36, Tryd.ntmps36
      go_wp2
      go_ret
      exact ⟨by first | rfl | (simp; done) | (simp [*]; done), by repeat (first | exact Drawn0.refl _ | apply Drawn0.step)⟩
    · rw [if_neg c3] at H
      have c3b0 : (a0 == 119) = false := beq_eq_false_iff_ne.mpr c3
      have c3b1 : (a0 != 119) = true := bne_iff_ne.mpr c3
      by_cases c4 : a0 = 108
      · rw [if_pos c4] at H
        have c4b0 : (a0 == 108) = true := beq_iff_eq.mpr c4
        have c4b1 : (a0 != 108) = false := bne_eq_false_iff_eq.mpr c4
        clear c4
        obtain rfl := Option.some.inj H
        go_enter Tryd.func36, Tryd.ntmps36
        go_wp2
        go_ret
        exact ⟨by first | rfl | (simp; done) | (simp [*]; done), by repeat (first | exact Drawn0.refl _ | apply Drawn0.step)⟩
      · rw [if_neg c4] at H
        have c4b0 : (a0 == 108) = false := beq_eq_false_iff_ne.mpr c4
        have c4b1 : (a0 != 108) = true := bne_iff_ne.mpr c4
        by_cases c5 : a0 = 116
        · rw [if_pos c5] at H
          have c5b0 : (a0 == 116) = true := beq_iff_eq.mpr c5
          have c5b1 : (a0 != 116) = false := bne_eq_false_iff_eq.mpr c5
          clear c5
          obtain rfl := Option.some.inj H
          go_enter Tryd.func36, Tryd.ntmps36
          go_wp2
          go_ret
          exact ⟨by first | rfl | (simp; done) | (simp [*]; done), by repeat (first | exact Drawn0.refl _ | apply Drawn0.step)⟩
        · rw [if_neg c5] at H
          have c5b0 : (a0 == 116) = false := beq_eq_false_iff_ne.mpr c5
          have c5b1 : (a0 != 116) = true := bne_iff_ne.mpr c5
          obtain rfl := Option.some.inj H
          go_enter Tryd.func36, Tryd.ntmps36
          go_wp2
          go_ret
          exact ⟨by first | rfl | (simp; done) | (simp [*]; done), by repeat (first | exact Drawn0.refl _ | apply Drawn0.step)⟩

end Go.Proofs.YthkncdnpfoccjaaDoor.P
