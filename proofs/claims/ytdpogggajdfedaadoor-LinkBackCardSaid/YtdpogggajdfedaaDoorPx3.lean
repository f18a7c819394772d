-- Printed by this session's program wip/xp.py (a turned copy of the kit's printer): functions, their contracts.
import Derived.Test.YtdpogggajdfedaaDoorPx0
import Derived.Test.YtdpogggajdfedaaDoorPx2
namespace Go.Proofs.YtdpogggajdfedaaDoor.P
open Go.RowKit Go.Proofs.YtdpogggajdfedaaDoorW.PrintWords Go.Proofs.YtdpogggajdfedaaDoorW.PrintLast Go.Proofs.YtdpogggajdfedaaDoorW.PrintMore
attribute [local go_sem] max2_int min2_int max_two min_two max_three min_three max_four min_four   -- for this text's walks alone
set_option linter.unusedVariables false
set_option linter.unusedSimpArgs false

/-! ### codec_Encode: function 16 -/
def codec_Encode.l0 : Nat → List Int → List (S50) → Int → Int → Option (ByteArray × Int)
 | 0, _, _, _, _ => none
 | k + 1, x4, x11, x12, x13 => if x13 < x12 then (if 0 ≤ x13 then (if x13 < (x11.length : Int) then (if ((rd_T50 x11 x13).f0) < 1 then (some ((⟨#[]⟩ : ByteArray), 1)) else (if ((rd_T50 x11 x13).f0) > 4 then (some ((⟨#[]⟩ : ByteArray), 1)) else (if ((rd_T50 x11 x13).f0) = 4 then (if ((rd_T50 x11 x13).f1) = 0 then (if (((rd_T50 x11 x13).f2).size : Int) > 100000 then (some ((⟨#[]⟩ : ByteArray), 3)) else ((codec_put.f k x4 (IntKind.u64.wrap ((((rd_T50 x11 x13).f2).size : Int))) 4).bind fun t115 => (if t115.length + ((rd_T50 x11 x13).f2).size < 140737488355328 then (codec_Encode.l0 k (t115 ++ bytesOf ((rd_T50 x11 x13).f2)) x11 x12 (wrap64 (x13 + 1))) else (none)))) else (some ((⟨#[]⟩ : ByteArray), 1))) else (if 0 ≤ ((rd_T50 x11 x13).f0) then (if ((rd_T50 x11 x13).f0) < 5 then (if ((rd_T50 x11 x13).f2).toList = ([] : List UInt8) then (if (rd sizTabI ((rd_T50 x11 x13).f0)) < 8 then (if 0 ≤ (wrap64 (8 * (rd sizTabI ((rd_T50 x11 x13).f0)))) then (if (shr .u64 ((rd_T50 x11 x13).f1) (wrap64 (8 * (rd sizTabI ((rd_T50 x11 x13).f0))))) > 0 then (some ((⟨#[]⟩ : ByteArray), 1)) else ((codec_put.f k x4 ((rd_T50 x11 x13).f1) (rd sizTabI ((rd_T50 x11 x13).f0))).bind fun t122 => (codec_Encode.l0 k t122 x11 x12 (wrap64 (x13 + 1))))) else (none)) else ((codec_put.f k x4 ((rd_T50 x11 x13).f1) (rd sizTabI ((rd_T50 x11 x13).f0))).bind fun t125 => (codec_Encode.l0 k t125 x11 x12 (wrap64 (x13 + 1))))) else (some ((⟨#[]⟩ : ByteArray), 1))) else (none)) else (none))))) else (none)) else (none)) else (some (strOfNums x4, 0))
def codec_Encode.f (k : Nat) (l0 : List (S50)) : Option (ByteArray × Int) := if (l0.length : Int) > 1000 then (some ((⟨#[]⟩ : ByteArray), 3)) else (codec_Encode.l0 k ([] : List Int) l0 (l0.length : Int) 0)
theorem codec_Encode.mono_l : ∀ k, (∀ y0 y1 y2 y3, LeO (codec_Encode.l0 k y0 y1 y2 y3) (codec_Encode.l0 (k + 1) y0 y1 y2 y3))
 | 0 => fun _ _ _ _ r h => by simp [codec_Encode.l0] at h
 | k + 1 => by
  have ih0 := codec_Encode.mono_l k
  ·intro y0 y1 y2 y3
   unfold codec_Encode.l0
   repeat' first
   | (with_reducible exact ih0 _ _ _ _)
   | (with_reducible exact codec_put.mono _ _ _ _)
   | (with_reducible exact LeO.refl _)
   | (with_reducible exact LeO.none _)
   | (with_reducible refine LeO.ite ?_ ?_)
   | (with_reducible refine LeO.bind ?_ (fun _ => ?_))
   | exact ih0 _ _ _ _
   | exact codec_put.mono _ _ _ _
   | exact LeO.none _
   | refine LeO.ite ?_ ?_
   | refine LeO.bind ?_ (fun _ => ?_)
theorem codec_Encode.mono : ∀ a0 k, LeO (codec_Encode.f k a0) (codec_Encode.f (k + 1) a0) := by
 intro a0 k
 have ih0 := codec_Encode.mono_l k
 unfold codec_Encode.f
 repeat' first
   | (with_reducible exact ih0 _ _ _ _)
   | (with_reducible exact codec_put.mono _ _ _ _)
   | (with_reducible exact LeO.refl _)
   | (with_reducible exact LeO.none _)
   | (with_reducible refine LeO.ite ?_ ?_)
   | (with_reducible refine LeO.bind ?_ (fun _ => ?_))
   | exact ih0 _ _ _ _
   | exact codec_put.mono _ _ _ _
   | exact LeO.none _
   | refine LeO.ite ?_ ?_
   | refine LeO.bind ?_ (fun _ => ?_)
def codec_Encode.T14 : Bool × List (List Nat × List Nat) := (true, [([], []), ([], []), ([1], [1]), ([2], [2]), ([3], [3]), ([0, 4], [0, 4]), ([], []), ([6], [6]), ([5, 7, 5], [5, 7]), ([8, 8, 0, 1, 2, 3, 4, 5, 6, 7, 8], [0, 8])])
def codec_Encode.B14 : List Nat := [0, 0, 2, 6, 14, 31, 0, 64, 255, 511]
theorem codec_Encode.tab14 : rtab .any (opsOf Tryd.f16 14) = codec_Encode.T14 := by kernel_rfl
theorem codec_Encode.bits14 : waitsOk codec_Encode.T14.2 codec_Encode.B14 = true := by kernel_rfl
set_option maxHeartbeats 8000000 in
set_option maxRecDepth 100000 in
theorem codec_Encode.calls (k : Nat) (A0 : Option Addr) (c0 : Nat) (l0 : List (S50)) (r1 : ByteArray) (r2 : Int) (w : World) (hr0 : Kd.C k50 w A0 l0.length l0) (hc0 : l0.length ≤ c0) (HT_ : TabOk w) (h : codec_Encode.f k l0 = some (r1, r2)) :
  Calls Tryd.prog 16 #[.slice A0 l0.length c0] w fun e w' => e = .returned (.tuple #[.string r1, .int .i64 r2]) ∧ Below w.heap.size w w' := by
 have HT := Aside0.mk HT_
 have HRGsiz := Aside0.mk HT_.sizC
 clear HT_
 have hu50 := Tryd.underlying50
 have HR0 := Aside0.mk hr0
 have HC0 := Aside0.mk hc0
 clear hr0 hc0
 have HB := Aside0.mk (Below.refl w.heap.size w)
 have H : (if (l0.length : Int) > 1000 then (some ((⟨#[]⟩ : ByteArray), 3)) else (codec_Encode.l0 k ([] : List Int) l0 (l0.length : Int) 0)) = some (r1, r2) := h
 clear h
 by_cases c2 : (l0.length : Int) > 1000
 ·rw [if_pos c2] at H
  have av : decide (1000 < (l0.length : Int)) = true := decide_eq_true c2
  have aw : decide (1000 < l0.length) = true := decide_eq_true (by omega)
  clear c2
  simp only [Option.some.injEq, Prod.mk.injEq] at H
  obtain ⟨rfl, rfl⟩ := H
  go_enter Tryd.func16, Tryd.ntmps16
  go_wp2
  go_ret2
  exact ⟨er, bw⟩
 rw [if_neg c2] at H
 have av : decide (1000 < (l0.length : Int)) = false := decide_eq_false c2
 have aw : decide (1000 < l0.length) = false := decide_eq_false (by omega)
 clear c2
 have H' := Aside0.mk H
 clear H
 go_enter Tryd.func16, Tryd.ntmps16
 go_wp2
 go_loopg [4, 13] k (fun kq v4 v13 w' => ∃ (x4_1 : List Int) (x13_1 : Int), v13 = .int .i64 x13_1 ∧ Aside0 (codec_Encode.l0 kq x4_1 l0 (l0.length : Int) x13_1 = some (r1, r2)) ∧ Aside0 (kq ≤ k) ∧ Aside0 (Kd.R (Kd.int .u8) 5 w' w.heap.size (fun _ => True) v4 x4_1) ∧ Aside0 (Below w.heap.size w w'))
 case atStart => exact ⟨(([] : List Int)), (0), (by first | rfl | (simp; done) | (simp [*]; done)), H', ⟨Nat.le_refl _⟩, ⟨by first | exact Kd.R_nil _ _ _ _ _ | exact Kd.N_nil _ _ _ _ _ | exact Kd.V_nil _ _ _ _ _ | exact Kd.Q_nil _ _ _ _ _ | exact Kd.S_nil _ _ _ _ _⟩, ⟨bw⟩⟩
 case round =>
  clear H'
  try clear c1
  try clear c2
  try clear av
  try clear aw
  try clear p2
  obtain ⟨x4_1, x13_1, rfl, HA, HK1, ag, HB⟩ := hrel
  cases gk with
  | zero => exact absurd HA.out (by simp [codec_Encode.l0])
  | succ k1 =>
   have H := HA.out
   clear HA
   simp only [codec_Encode.l0] at H
   by_cases c3 : x13_1 < (l0.length : Int); rotate_left
   ·rw [if_neg c3] at H
    have c3b0 : decide (x13_1 < (l0.length : Int)) = false := decide_eq_false c3
    clear c3
    simp only [Option.some.injEq, Prod.mk.injEq] at H
    obtain ⟨rfl, rfl⟩ := H
    have hcv54 := own_string (P := Tryd.prog) Tryd.underlying72 Tryd.underlying5 Tryd.underlying9 (Kd.own_of_R ag.out)
    go_wp2
    go_ret2
    exact ⟨er, bw⟩
   rw [if_pos c3] at H
   have c3b0 : decide (x13_1 < (l0.length : Int)) = true := decide_eq_true c3
   clear c3
   by_cases c4 : 0 ≤ x13_1; rotate_left
   ·rw [if_neg c4] at H
    exact absurd H (by simp)
   rw [if_pos c4] at H
   have c4b0 : decide (0 ≤ x13_1) = true := decide_eq_true c4
   clear c4
   by_cases c5 : x13_1 < (l0.length : Int); rotate_left
   ·rw [if_neg c5] at H
    exact absurd H (by simp)
   rw [if_pos c5] at H
   have c5b0 : decide (x13_1 < (l0.length : Int)) = true := decide_eq_true c5
   clear c5
   by_cases c6 : ((rd_T50 l0 x13_1).f0) < 1
   ·rw [if_pos c6] at H
    have c6b0 : decide (((rd_T50 l0 x13_1).f0) < 1) = true := decide_eq_true c6
    clear c6
    simp only [Option.some.injEq, Prod.mk.injEq] at H
    obtain ⟨rfl, rfl⟩ := H
    have p113 : 0 ≤ (x13_1 : Int) := od
    have q113 : x13_1 < (l0.length : Int) := od
    obtain ⟨aj, e113, ad, ae, af⟩ := at_T50 HR0.out x13_1 p113 q113
    cases e113
    replace ad := (HB.out.cell (World.block_lt_of_cell? w _ ad)).trans ad
    replace ae := (HB.out.cell (World.block_lt_of_cell? w _ ae)).trans ae
    replace af := (HB.out.cell (World.block_lt_of_cell? w _ af)).trans af
    replace p113 := eq_true p113
    replace q113 := eq_true q113
    go_wp2_with (first | ((with_reducible refine gate_dst (N := 6) rfl ?_); refine box_event ?hg (N := 6) ?hd (cs := #[.int .i64 0, .int .u64 0, .string (⟨#[]⟩ : ByteArray)]) (t := 50) ?hr ?_; (case hd => rfl); (case hg => rfl); (case hr => first | (go_simp; done) | (go_simp; rfl)); intro ab hg w7 hbox hb; have n0_ := Aside0.mk (Kd.R_below (by (with_reducible repeat (first | apply Kd.R_alloc | apply Kd.R_drewN | apply Kd.R_drew)); exact ag.out) hb); have n1_ := Aside0.mk (below_step bw hb); have n2_ := Aside0.mk (hbox); have n3_ := Aside0.mk ((g1 hg bw : w.heap.size ≤ ab)); have n4_ := Aside0.mk ((g1 hg bw : w.heap.size ≤ ab)); clear ag; clear HB; have ag := n0_; have HB := n1_; have ac := n2_; have ah := n3_; have ai := n4_; clear n0_ n1_ n2_ n3_ n4_; clear hb hbox hg; obtain ⟨hcz8_0, hcz8_1, hcz8_2, hfz8_0, hfz8_1, hfz8_2⟩ := bx3 ac.out))
    go_ret2
    exact ⟨er, bw⟩
   rw [if_neg c6] at H
   have c6b0 : decide (((rd_T50 l0 x13_1).f0) < 1) = false := decide_eq_false c6
   clear c6
   by_cases c9 : ((rd_T50 l0 x13_1).f0) > 4
   ·rw [if_pos c9] at H
    have c9b0 : decide (4 < ((rd_T50 l0 x13_1).f0)) = true := decide_eq_true c9
    clear c9
    simp only [Option.some.injEq, Prod.mk.injEq] at H
    obtain ⟨rfl, rfl⟩ := H
    have p113 : 0 ≤ (x13_1 : Int) := od
    have q113 : x13_1 < (l0.length : Int) := od
    obtain ⟨aj, e113, ad, ae, af⟩ := at_T50 HR0.out x13_1 p113 q113
    cases e113
    replace ad := (HB.out.cell (World.block_lt_of_cell? w _ ad)).trans ad
    replace ae := (HB.out.cell (World.block_lt_of_cell? w _ ae)).trans ae
    replace af := (HB.out.cell (World.block_lt_of_cell? w _ af)).trans af
    replace p113 := eq_true p113
    replace q113 := eq_true q113
    go_wp2_with (first | ((with_reducible refine gate_dst (N := 6) rfl ?_); refine box_event ?hg (N := 6) ?hd (cs := #[.int .i64 0, .int .u64 0, .string (⟨#[]⟩ : ByteArray)]) (t := 50) ?hr ?_; (case hd => rfl); (case hg => rfl); (case hr => first | (go_simp; done) | (go_simp; rfl)); intro ab hg w10 hbox hb; have n0_ := Aside0.mk (Kd.R_below (by (with_reducible repeat (first | apply Kd.R_alloc | apply Kd.R_drewN | apply Kd.R_drew)); exact ag.out) hb); have n1_ := Aside0.mk (below_step bw hb); have n2_ := Aside0.mk (hbox); have n3_ := Aside0.mk ((g1 hg bw : w.heap.size ≤ ab)); have n4_ := Aside0.mk ((g1 hg bw : w.heap.size ≤ ab)); clear ag; clear HB; have ag := n0_; have HB := n1_; have ac := n2_; have ah := n3_; have ai := n4_; clear n0_ n1_ n2_ n3_ n4_; clear hb hbox hg; obtain ⟨hcz11_0, hcz11_1, hcz11_2, hfz11_0, hfz11_1, hfz11_2⟩ := bx3 ac.out))
    go_ret2
    exact ⟨er, bw⟩
   rw [if_neg c9] at H
   have c9b0 : decide (4 < ((rd_T50 l0 x13_1).f0)) = false := decide_eq_false c9
   clear c9
   by_cases c12 : ((rd_T50 l0 x13_1).f0) = 4; rotate_left
   ·rw [if_neg c12] at H
    have c12b0 : (((rd_T50 l0 x13_1).f0) == 4) = false := beq_eq_false_iff_ne.mpr c12
    have c12b1 : (((rd_T50 l0 x13_1).f0) != 4) = true := bne_iff_ne.mpr c12
    by_cases c28 : 0 ≤ ((rd_T50 l0 x13_1).f0); rotate_left
    ·rw [if_neg c28] at H
     exact absurd H (by simp)
    rw [if_pos c28] at H
    have c28b0 : decide (0 ≤ ((rd_T50 l0 x13_1).f0)) = true := decide_eq_true c28
    clear c28
    by_cases c29 : ((rd_T50 l0 x13_1).f0) < 5; rotate_left
    ·rw [if_neg c29] at H
     exact absurd H (by simp)
    rw [if_pos c29] at H
    have c29b0 : decide (((rd_T50 l0 x13_1).f0) < 5) = true := decide_eq_true c29
    clear c29
    by_cases c30 : ((rd_T50 l0 x13_1).f2).toList = ([] : List UInt8); rotate_left
    ·rw [if_neg c30] at H
     have c30b0 : (((rd_T50 l0 x13_1).f2).toList == ([] : List UInt8)) = false := beq_eq_false_iff_ne.mpr c30
     have c30b1 : (((rd_T50 l0 x13_1).f2).toList != ([] : List UInt8)) = true := bne_iff_ne.mpr c30
     simp only [Option.some.injEq, Prod.mk.injEq] at H
     obtain ⟨rfl, rfl⟩ := H
     have p113 : 0 ≤ (x13_1 : Int) := od
     have q113 : x13_1 < (l0.length : Int) := od
     obtain ⟨aj, e113, ad, ae, af⟩ := at_T50 HR0.out x13_1 p113 q113
     cases e113
     replace ad := (HB.out.cell (World.block_lt_of_cell? w _ ad)).trans ad
     replace ae := (HB.out.cell (World.block_lt_of_cell? w _ ae)).trans ae
     replace af := (HB.out.cell (World.block_lt_of_cell? w _ af)).trans af
     replace p113 := eq_true p113
     replace q113 := eq_true q113
     go_wp2_with (first | ((with_reducible refine gate_dst (N := 6) rfl ?_); refine box_event ?hg (N := 6) ?hd (cs := #[.int .i64 0, .int .u64 0, .string (⟨#[]⟩ : ByteArray)]) (t := 50) ?hr ?_; (case hd => rfl); (case hg => rfl); (case hr => first | (go_simp; done) | (go_simp; rfl)); intro ab hg w52 hbox hb; have n0_ := Aside0.mk (Kd.R_below (by (with_reducible repeat (first | apply Kd.R_alloc | apply Kd.R_drewN | apply Kd.R_drew)); exact ag.out) hb); have n1_ := Aside0.mk (below_step bw hb); have n2_ := Aside0.mk (hbox); have n3_ := Aside0.mk ((g1 hg bw : w.heap.size ≤ ab)); have n4_ := Aside0.mk ((g1 hg bw : w.heap.size ≤ ab)); clear ag; clear HB; have ag := n0_; have HB := n1_; have ac := n2_; have ah := n3_; have ai := n4_; clear n0_ n1_ n2_ n3_ n4_; clear hb hbox hg; obtain ⟨hcz53_0, hcz53_1, hcz53_2, hfz53_0, hfz53_1, hfz53_2⟩ := bx3 ac.out; have p121 : 0 ≤ (((rd_T50 l0 x13_1).f0) : Int) := od; have q121 : ((rd_T50 l0 x13_1).f0) < (sizTabI.length : Int) := od; have ql121 : ((((rd_T50 l0 x13_1).f0) : Int) < (5 : Int)) = True := eq_true (od); obtain ⟨ak, e121, aa⟩ := Kd.at_int HRGsiz.out ((rd_T50 l0 x13_1).f0) p121 q121; obtain rfl : (⟨0, 0, none⟩ : Addr) = ak := (by injection e121); (first | simp only [add_plain] at aa | simp only [add_at] at aa | simp only [Addr.add, Nat.zero_add] at aa | skip); have hn121_0 : (⟨0, 0, none⟩ : Addr).block ≠ ab := Nat.ne_of_lt (Nat.lt_of_lt_of_le (by have := World.block_lt_of_cell? _ _ aa; first | rwa [add_block] at this | exact this) ah.out); have hn121_1 : (⟨0, 0, none⟩ : Addr).block ≠ ab := Nat.ne_of_lt (Nat.lt_of_lt_of_le (by have := World.block_lt_of_cell? _ _ aa; first | rwa [add_block] at this | exact this) ah.out); have hn121_2 : (⟨0, 0, none⟩ : Addr).block ≠ ab := Nat.ne_of_lt (Nat.lt_of_lt_of_le (by have := World.block_lt_of_cell? _ _ aa; first | rwa [add_block] at this | exact this) ah.out); replace aa := (HB.out.cell (World.block_lt_of_cell? w _ aa)).trans aa; replace aa := (cell_far (p := ⟨ab, 0, none⟩) (by first | (rw [add_block]; exact hn121_0) | (show (Addr.add _ _).block ≠ _; rw [add_block]; exact hn121_0) | exact hn121_0) (.int .i64 ((rd_T50 l0 x13_1).f0))).trans aa; replace aa := (cell_far (p := ⟨ab, 1, none⟩) (by first | (rw [add_block]; exact hn121_1) | (show (Addr.add _ _).block ≠ _; rw [add_block]; exact hn121_1) | exact hn121_1) (.int .u64 ((rd_T50 l0 x13_1).f1))).trans aa; replace aa := (cell_far (p := ⟨ab, 2, none⟩) (by first | (rw [add_block]; exact hn121_2) | (show (Addr.add _ _).block ≠ _; rw [add_block]; exact hn121_2) | exact hn121_2) (.string ((rd_T50 l0 x13_1).f2))).trans aa; clear hn121_0; clear hn121_1; clear hn121_2; replace p121 := eq_true p121; replace q121 := eq_true q121))
     go_ret2
     exact ⟨er, bw⟩
    rw [if_pos c30] at H
    have c30b0 : (((rd_T50 l0 x13_1).f2).toList == ([] : List UInt8)) = true := beq_iff_eq.mpr c30
    have c30b1 : (((rd_T50 l0 x13_1).f2).toList != ([] : List UInt8)) = false := bne_eq_false_iff_eq.mpr c30
    clear c30
    by_cases c31 : (rd sizTabI ((rd_T50 l0 x13_1).f0)) < 8; rotate_left
    ·rw [if_neg c31] at H
     have c31b0 : decide ((rd sizTabI ((rd_T50 l0 x13_1).f0)) < 8) = false := decide_eq_false c31
     clear c31
     replace H := Option.bind_eq_some_iff.mp H
     obtain ⟨t125, A450, H⟩ := H
     replace H : (codec_Encode.l0 k1 t125 l0 (l0.length : Int) (wrap64 (x13_1 + 1))) = some (r1, r2) := H
     have A45 := Aside0.mk A450
     clear A450
     have H' := Aside0.mk H
     clear H
     have p113 : 0 ≤ (x13_1 : Int) := od
     have q113 : x13_1 < (l0.length : Int) := od
     obtain ⟨aj, e113, ad, ae, af⟩ := at_T50 HR0.out x13_1 p113 q113
     cases e113
     replace ad := (HB.out.cell (World.block_lt_of_cell? w _ ad)).trans ad
     replace ae := (HB.out.cell (World.block_lt_of_cell? w _ ae)).trans ae
     replace af := (HB.out.cell (World.block_lt_of_cell? w _ af)).trans af
     replace p113 := eq_true p113
     replace q113 := eq_true q113
     go_wp2_with (first | ((with_reducible refine gate_dst (N := 6) rfl ?_); refine box_event ?hg (N := 6) ?hd (cs := #[.int .i64 0, .int .u64 0, .string (⟨#[]⟩ : ByteArray)]) (t := 50) ?hr ?_; (case hd => rfl); (case hg => rfl); (case hr => first | (go_simp; done) | (go_simp; rfl)); intro ab hg w46 hbox hb; have n0_ := Aside0.mk (Kd.R_below (by (with_reducible repeat (first | apply Kd.R_alloc | apply Kd.R_drewN | apply Kd.R_drew)); exact ag.out) hb); have n1_ := Aside0.mk (below_step bw hb); have n2_ := Aside0.mk (hbox); have n3_ := Aside0.mk ((g1 hg bw : w.heap.size ≤ ab)); have n4_ := Aside0.mk ((g1 hg bw : w.heap.size ≤ ab)); clear ag; clear HB; have ag := n0_; have HB := n1_; have ac := n2_; have ah := n3_; have ai := n4_; clear n0_ n1_ n2_ n3_ n4_; clear hb hbox hg; obtain ⟨hcz47_0, hcz47_1, hcz47_2, hfz47_0, hfz47_1, hfz47_2⟩ := bx3 ac.out) | ((with_reducible refine gate_store (t := 50) (p := 6) rfl ?_); refine store_event (t := 50) (p := 6) (v := ?vo_w48) (w1 := (((w46.setCell ⟨ab, 0, none⟩ (.int .i64 ((rd_T50 l0 x13_1).f0))).setCell ⟨ab, 1, none⟩ (.int .u64 ((rd_T50 l0 x13_1).f1))).setCell ⟨ab, 2, none⟩ (.string ((rd_T50 l0 x13_1).f2)))) ?hg ?ho ?hn ?hr ?_; (case ho => rfl); (case hg => rfl); (case hn => rfl); (case hr => first | (go_simp; done) | (go_simp; rfl)); intro w48 hw; have n0_ : Aside0 (Kd.R (Kd.int .u8) 5 w48 w.heap.size (fun _ => True) u4 x4_1) := ⟨(by rw [hw]; exact (by (with_reducible repeat (first | apply Kd.R_alloc | apply Kd.R_drewN | apply Kd.R_drew)); exact Kd.R_mono (Kd.R_far (p := ⟨ab, 2, none⟩) (Kd.R_far (p := ⟨ab, 1, none⟩) (Kd.R_far (p := ⟨ab, 0, none⟩) (Kd.R_types ag.out ac.out (by decide)) (fun _ hk => hk.2) (.int .i64 ((rd_T50 l0 x13_1).f0))) (fun _ hk => hk.2) (.int .u64 ((rd_T50 l0 x13_1).f1))) (fun _ hk => hk.2) (.string ((rd_T50 l0 x13_1).f2))) (fun _ hk => trivial)))⟩; have n1_ : Aside0 (w48.heap[ab]? = some (.cells #[.int .i64 ((rd_T50 l0 x13_1).f0), .int .u64 ((rd_T50 l0 x13_1).f1), .string ((rd_T50 l0 x13_1).f2)] 50 (0, 0))) := ⟨(by rw [hw]; exact (by (with_reducible repeat (first | refine blk_drewN ?_ _ | refine blk_drew ?_ | refine blk_alloc ?_ _)); refine blk_put (cs := #[.int .i64 ((rd_T50 l0 x13_1).f0), .int .u64 ((rd_T50 l0 x13_1).f1), .string (⟨#[]⟩ : ByteArray)]) ?_ 2 _ rfl; (with_reducible repeat (first | refine blk_drewN ?_ _ | refine blk_drew ?_ | refine blk_alloc ?_ _)); refine blk_put (cs := #[.int .i64 ((rd_T50 l0 x13_1).f0), .int .u64 0, .string (⟨#[]⟩ : ByteArray)]) ?_ 1 _ rfl; (with_reducible repeat (first | refine blk_drewN ?_ _ | refine blk_drew ?_ | refine blk_alloc ?_ _)); refine blk_put (cs := #[.int .i64 0, .int .u64 0, .string (⟨#[]⟩ : ByteArray)]) ?_ 0 _ rfl; (with_reducible repeat (first | refine blk_drewN ?_ _ | refine blk_drew ?_ | refine blk_alloc ?_ _)); exact ac.out))⟩; have n2_ : Aside0 (Below w.heap.size w w48) := ⟨(by rw [hw]; exact bw)⟩; clear hw; clear ag; clear ac; clear HB; have ag := n0_; have ac := n1_; have HB := n2_; clear n0_ n1_ n2_; obtain ⟨hcz49_0, hcz49_1, hcz49_2, hfz49_0, hfz49_1, hfz49_2⟩ := bx3 ac.out; have p121 : 0 ≤ (((rd_T50 l0 x13_1).f0) : Int) := od; have q121 : ((rd_T50 l0 x13_1).f0) < (sizTabI.length : Int) := od; have ql121 : ((((rd_T50 l0 x13_1).f0) : Int) < (5 : Int)) = True := eq_true (od); obtain ⟨ak, e121, aa⟩ := Kd.at_int HRGsiz.out ((rd_T50 l0 x13_1).f0) p121 q121; obtain rfl : (⟨0, 0, none⟩ : Addr) = ak := (by injection e121); (first | simp only [add_plain] at aa | simp only [add_at] at aa | simp only [Addr.add, Nat.zero_add] at aa | skip); replace aa := (HB.out.cell (World.block_lt_of_cell? w _ aa)).trans aa; replace p121 := eq_true p121; replace q121 := eq_true q121; obtain ⟨ar, au, eo50⟩ := Kd.R_slice ag.out; subst eo50) | ((with_reducible refine gate_callee (f := 29) rfl ?_); refine goesL_ (some 67) rfl rfl Tryd.func29 (by kernel_rfl) rfl #[.slice ar x4_1.length au, .int .u64 ((rd_T50 l0 x13_1).f1), .int .i64 (rd sizTabI ((rd_T50 l0 x13_1).f0))] rfl am ?_; (with_reducible refine (codec_put.calls k1 (fun k_ => some k_ = (.slice ar x4_1.length au : Value).ownBlock) (.slice ar x4_1.length au) x4_1 ((rd_T50 l0 x13_1).f1) (rd sizTabI ((rd_T50 l0 x13_1).f0)) t125 w _ ?side1 ?side2 A45.out).mono ?_); (case side1 => repeat (first | (with_reducible first | exact HB.out | apply below_alloc | apply pw_below_drewN | apply below_drew1 | refine below_set ?_ ai.out) | exact HB.out)); (case side2 => exact Kd.R_tight rfl ag.out); rintro e w51 ⟨v126, rfl, ho0, hb, hkp⟩; refine ⟨_, rfl, ?_⟩; have n0_ := Aside0.mk (blk_kept (bk ac.out) hkp (fun hs_ => (fun e_ => (Kd.R_ne ag.out ac.out (by decide)) e_) hs_)); have n1_ := Aside0.mk (Kd.R_mono (ok' := fun k_ => True) ho0 (fun k_ hk_ => trivial)); have n2_ := Aside0.mk (hb); clear ac; clear HB; clear ag; have ac := n0_; have HO127 := n1_; have HB := n2_; clear n0_ n1_ n2_; (try clear hb); (try clear hkp); (try clear ho0)))
     go_roundg k1
     case measure => have := HK1.out; omega
     case rel => exact ⟨(t125), (wrap64 (x13_1 + 1)), (by first | rfl | (simp; done) | (simp [*]; done)), H', ⟨by have := HK1.out; omega⟩, ⟨by (with_reducible repeat (first | apply Kd.R_alloc | apply Kd.R_drewN | apply Kd.R_drew)); exact HO127.out⟩, ⟨bw⟩⟩
    rw [if_pos c31] at H
    have c31b0 : decide ((rd sizTabI ((rd_T50 l0 x13_1).f0)) < 8) = true := decide_eq_true c31
    clear c31
    obtain ⟨ji32, hji32⟩ : ∃ j_ : Int, (wrap64 (8 * (rd sizTabI ((rd_T50 l0 x13_1).f0)))) = j_ := ⟨_, rfl⟩
    replace H : (if 0 ≤ (ji32) then (if (shr .u64 ((rd_T50 l0 x13_1).f1) (ji32)) > 0 then (some ((⟨#[]⟩ : ByteArray), 1)) else ((codec_put.f k1 x4_1 ((rd_T50 l0 x13_1).f1) (rd sizTabI ((rd_T50 l0 x13_1).f0))).bind fun t122 => (codec_Encode.l0 k1 t122 l0 (l0.length : Int) (wrap64 (x13_1 + 1))))) else (none)) = some (r1, r2) := by first | (rw [hji32] at H; exact H) | (simp only [hji32] at H ⊢; exact H)
    have hji32w : (IntKind.i64.wrap (8 * (rd sizTabI ((rd_T50 l0 x13_1).f0)))) = ji32 := (i64_w _).trans hji32
    by_cases c33 : 0 ≤ (ji32); rotate_left
    ·rw [if_neg c33] at H
     exact absurd H (by simp)
    rw [if_pos c33] at H
    have c33b0 := eq_true c33
    have c33b1 : decide (0 ≤ (ji32)) = true := decide_eq_true c33
    clear c33
    obtain ⟨ji34, hji34⟩ : ∃ j_ : Int, (shr .u64 ((rd_T50 l0 x13_1).f1) (ji32)) = j_ := ⟨_, rfl⟩
    replace H : (if (ji34) > 0 then (some ((⟨#[]⟩ : ByteArray), 1)) else ((codec_put.f k1 x4_1 ((rd_T50 l0 x13_1).f1) (rd sizTabI ((rd_T50 l0 x13_1).f0))).bind fun t122 => (codec_Encode.l0 k1 t122 l0 (l0.length : Int) (wrap64 (x13_1 + 1))))) = some (r1, r2) := by first | (rw [hji34] at H; exact H) | (simp only [hji34] at H ⊢; exact H)
    have hji34_ : (((rd_T50 l0 x13_1).f1) / 2 ^ min (ji32).toNat 64) = ji34 := hji34
    have hji34z : (ji32) ≤ 64 → (((rd_T50 l0 x13_1).f1) / 2 ^ (ji32).toNat) = ji34 := shr_small hji34
    by_cases c35 : (ji34) > 0
    ·rw [if_pos c35] at H
     have c35b0 : decide (0 < (ji34)) = true := decide_eq_true c35
     clear c35
     simp only [Option.some.injEq, Prod.mk.injEq] at H
     obtain ⟨rfl, rfl⟩ := H
     have p113 : 0 ≤ (x13_1 : Int) := od
     have q113 : x13_1 < (l0.length : Int) := od
     obtain ⟨aj, e113, ad, ae, af⟩ := at_T50 HR0.out x13_1 p113 q113
     cases e113
     replace ad := (HB.out.cell (World.block_lt_of_cell? w _ ad)).trans ad
     replace ae := (HB.out.cell (World.block_lt_of_cell? w _ ae)).trans ae
     replace af := (HB.out.cell (World.block_lt_of_cell? w _ af)).trans af
     replace p113 := eq_true p113
     replace q113 := eq_true q113
     go_wp2_with (first | ((with_reducible refine gate_dst (N := 6) rfl ?_); refine box_event ?hg (N := 6) ?hd (cs := #[.int .i64 0, .int .u64 0, .string (⟨#[]⟩ : ByteArray)]) (t := 50) ?hr ?_; (case hd => rfl); (case hg => rfl); (case hr => first | (go_simp; done) | (go_simp; rfl)); intro ab hg w36 hbox hb; have n0_ := Aside0.mk (Kd.R_below (by (with_reducible repeat (first | apply Kd.R_alloc | apply Kd.R_drewN | apply Kd.R_drew)); exact ag.out) hb); have n1_ := Aside0.mk (below_step bw hb); have n2_ := Aside0.mk (hbox); have n3_ := Aside0.mk ((g1 hg bw : w.heap.size ≤ ab)); have n4_ := Aside0.mk ((g1 hg bw : w.heap.size ≤ ab)); clear ag; clear HB; have ag := n0_; have HB := n1_; have ac := n2_; have ah := n3_; have ai := n4_; clear n0_ n1_ n2_ n3_ n4_; clear hb hbox hg; obtain ⟨hcz37_0, hcz37_1, hcz37_2, hfz37_0, hfz37_1, hfz37_2⟩ := bx3 ac.out; have p121 : 0 ≤ (((rd_T50 l0 x13_1).f0) : Int) := od; have q121 : ((rd_T50 l0 x13_1).f0) < (sizTabI.length : Int) := od; have ql121 : ((((rd_T50 l0 x13_1).f0) : Int) < (5 : Int)) = True := eq_true (od); obtain ⟨ak, e121, aa⟩ := Kd.at_int HRGsiz.out ((rd_T50 l0 x13_1).f0) p121 q121; obtain rfl : (⟨0, 0, none⟩ : Addr) = ak := (by injection e121); (first | simp only [add_plain] at aa | simp only [add_at] at aa | simp only [Addr.add, Nat.zero_add] at aa | skip); have hn121_0 : (⟨0, 0, none⟩ : Addr).block ≠ ab := Nat.ne_of_lt (Nat.lt_of_lt_of_le (by have := World.block_lt_of_cell? _ _ aa; first | rwa [add_block] at this | exact this) ah.out); have hn121_1 : (⟨0, 0, none⟩ : Addr).block ≠ ab := Nat.ne_of_lt (Nat.lt_of_lt_of_le (by have := World.block_lt_of_cell? _ _ aa; first | rwa [add_block] at this | exact this) ah.out); have hn121_2 : (⟨0, 0, none⟩ : Addr).block ≠ ab := Nat.ne_of_lt (Nat.lt_of_lt_of_le (by have := World.block_lt_of_cell? _ _ aa; first | rwa [add_block] at this | exact this) ah.out); replace aa := (HB.out.cell (World.block_lt_of_cell? w _ aa)).trans aa; replace aa := (cell_far (p := ⟨ab, 0, none⟩) (by first | (rw [add_block]; exact hn121_0) | (show (Addr.add _ _).block ≠ _; rw [add_block]; exact hn121_0) | exact hn121_0) (.int .i64 ((rd_T50 l0 x13_1).f0))).trans aa; replace aa := (cell_far (p := ⟨ab, 1, none⟩) (by first | (rw [add_block]; exact hn121_1) | (show (Addr.add _ _).block ≠ _; rw [add_block]; exact hn121_1) | exact hn121_1) (.int .u64 ((rd_T50 l0 x13_1).f1))).trans aa; replace aa := (cell_far (p := ⟨ab, 2, none⟩) (by first | (rw [add_block]; exact hn121_2) | (show (Addr.add _ _).block ≠ _; rw [add_block]; exact hn121_2) | exact hn121_2) (.string ((rd_T50 l0 x13_1).f2))).trans aa; clear hn121_0; clear hn121_1; clear hn121_2; replace p121 := eq_true p121; replace q121 := eq_true q121))
     go_ret2
     exact ⟨by first | rfl | (simp [errW_none, errW_some] <;> rfl) | (simp only [← hji32, ← hji34]; first | rfl | (simp [errW_none, errW_some] <;> rfl)) | (simp [*, errW_none, errW_some] <;> rfl), bw⟩
    rw [if_neg c35] at H
    have c35b0 : decide (0 < (ji34)) = false := decide_eq_false c35
    clear c35
    replace H := Option.bind_eq_some_iff.mp H
    obtain ⟨t122, A380, H⟩ := H
    replace H : (codec_Encode.l0 k1 t122 l0 (l0.length : Int) (wrap64 (x13_1 + 1))) = some (r1, r2) := H
    have A38 := Aside0.mk A380
    clear A380
    have H' := Aside0.mk H
    clear H
    have p113 : 0 ≤ (x13_1 : Int) := od
    have q113 : x13_1 < (l0.length : Int) := od
    obtain ⟨aj, e113, ad, ae, af⟩ := at_T50 HR0.out x13_1 p113 q113
    cases e113
    replace ad := (HB.out.cell (World.block_lt_of_cell? w _ ad)).trans ad
    replace ae := (HB.out.cell (World.block_lt_of_cell? w _ ae)).trans ae
    replace af := (HB.out.cell (World.block_lt_of_cell? w _ af)).trans af
    replace p113 := eq_true p113
    replace q113 := eq_true q113
    go_wp2_with (first | ((with_reducible refine gate_dst (N := 6) rfl ?_); refine box_event ?hg (N := 6) ?hd (cs := #[.int .i64 0, .int .u64 0, .string (⟨#[]⟩ : ByteArray)]) (t := 50) ?hr ?_; (case hd => rfl); (case hg => rfl); (case hr => first | (go_simp; done) | (go_simp; rfl)); intro ab hg w39 hbox hb; have n0_ := Aside0.mk (Kd.R_below (by (with_reducible repeat (first | apply Kd.R_alloc | apply Kd.R_drewN | apply Kd.R_drew)); exact ag.out) hb); have n1_ := Aside0.mk (below_step bw hb); have n2_ := Aside0.mk (hbox); have n3_ := Aside0.mk ((g1 hg bw : w.heap.size ≤ ab)); have n4_ := Aside0.mk ((g1 hg bw : w.heap.size ≤ ab)); clear ag; clear HB; have ag := n0_; have HB := n1_; have ac := n2_; have ah := n3_; have ai := n4_; clear n0_ n1_ n2_ n3_ n4_; clear hb hbox hg; obtain ⟨hcz40_0, hcz40_1, hcz40_2, hfz40_0, hfz40_1, hfz40_2⟩ := bx3 ac.out) | ((with_reducible refine gate_store (t := 50) (p := 6) rfl ?_); refine store_event (t := 50) (p := 6) (v := ?vo_w41) (w1 := (((w39.setCell ⟨ab, 0, none⟩ (.int .i64 ((rd_T50 l0 x13_1).f0))).setCell ⟨ab, 1, none⟩ (.int .u64 ((rd_T50 l0 x13_1).f1))).setCell ⟨ab, 2, none⟩ (.string ((rd_T50 l0 x13_1).f2)))) ?hg ?ho ?hn ?hr ?_; (case ho => rfl); (case hg => rfl); (case hn => rfl); (case hr => first | (go_simp; done) | (go_simp; rfl)); intro w41 hw; have n0_ : Aside0 (Kd.R (Kd.int .u8) 5 w41 w.heap.size (fun _ => True) u4 x4_1) := ⟨(by rw [hw]; exact (by (with_reducible repeat (first | apply Kd.R_alloc | apply Kd.R_drewN | apply Kd.R_drew)); exact Kd.R_mono (Kd.R_far (p := ⟨ab, 2, none⟩) (Kd.R_far (p := ⟨ab, 1, none⟩) (Kd.R_far (p := ⟨ab, 0, none⟩) (Kd.R_types ag.out ac.out (by decide)) (fun _ hk => hk.2) (.int .i64 ((rd_T50 l0 x13_1).f0))) (fun _ hk => hk.2) (.int .u64 ((rd_T50 l0 x13_1).f1))) (fun _ hk => hk.2) (.string ((rd_T50 l0 x13_1).f2))) (fun _ hk => trivial)))⟩; have n1_ : Aside0 (w41.heap[ab]? = some (.cells #[.int .i64 ((rd_T50 l0 x13_1).f0), .int .u64 ((rd_T50 l0 x13_1).f1), .string ((rd_T50 l0 x13_1).f2)] 50 (0, 0))) := ⟨(by rw [hw]; exact (by (with_reducible repeat (first | refine blk_drewN ?_ _ | refine blk_drew ?_ | refine blk_alloc ?_ _)); refine blk_put (cs := #[.int .i64 ((rd_T50 l0 x13_1).f0), .int .u64 ((rd_T50 l0 x13_1).f1), .string (⟨#[]⟩ : ByteArray)]) ?_ 2 _ rfl; (with_reducible repeat (first | refine blk_drewN ?_ _ | refine blk_drew ?_ | refine blk_alloc ?_ _)); refine blk_put (cs := #[.int .i64 ((rd_T50 l0 x13_1).f0), .int .u64 0, .string (⟨#[]⟩ : ByteArray)]) ?_ 1 _ rfl; (with_reducible repeat (first | refine blk_drewN ?_ _ | refine blk_drew ?_ | refine blk_alloc ?_ _)); refine blk_put (cs := #[.int .i64 0, .int .u64 0, .string (⟨#[]⟩ : ByteArray)]) ?_ 0 _ rfl; (with_reducible repeat (first | refine blk_drewN ?_ _ | refine blk_drew ?_ | refine blk_alloc ?_ _)); exact ac.out))⟩; have n2_ : Aside0 (Below w.heap.size w w41) := ⟨(by rw [hw]; exact bw)⟩; clear hw; clear ag; clear ac; clear HB; have ag := n0_; have ac := n1_; have HB := n2_; clear n0_ n1_ n2_; obtain ⟨hcz42_0, hcz42_1, hcz42_2, hfz42_0, hfz42_1, hfz42_2⟩ := bx3 ac.out; have p121 : 0 ≤ (((rd_T50 l0 x13_1).f0) : Int) := od; have q121 : ((rd_T50 l0 x13_1).f0) < (sizTabI.length : Int) := od; have ql121 : ((((rd_T50 l0 x13_1).f0) : Int) < (5 : Int)) = True := eq_true (od); obtain ⟨ak, e121, aa⟩ := Kd.at_int HRGsiz.out ((rd_T50 l0 x13_1).f0) p121 q121; obtain rfl : (⟨0, 0, none⟩ : Addr) = ak := (by injection e121); (first | simp only [add_plain] at aa | simp only [add_at] at aa | simp only [Addr.add, Nat.zero_add] at aa | skip); replace aa := (HB.out.cell (World.block_lt_of_cell? w _ aa)).trans aa; replace p121 := eq_true p121; replace q121 := eq_true q121; obtain ⟨ap, aq, eo43⟩ := Kd.R_slice ag.out; subst eo43) | ((with_reducible refine gate_callee (f := 29) rfl ?_); refine goesL_ (some 67) rfl rfl Tryd.func29 (by kernel_rfl) rfl #[.slice ap x4_1.length aq, .int .u64 ((rd_T50 l0 x13_1).f1), .int .i64 (rd sizTabI ((rd_T50 l0 x13_1).f0))] rfl am ?_; (with_reducible refine (codec_put.calls k1 (fun k_ => some k_ = (.slice ap x4_1.length aq : Value).ownBlock) (.slice ap x4_1.length aq) x4_1 ((rd_T50 l0 x13_1).f1) (rd sizTabI ((rd_T50 l0 x13_1).f0)) t122 w _ ?side1 ?side2 A38.out).mono ?_); (case side1 => repeat (first | (with_reducible first | exact HB.out | apply below_alloc | apply pw_below_drewN | apply below_drew1 | refine below_set ?_ ai.out) | exact HB.out)); (case side2 => exact Kd.R_tight rfl ag.out); rintro e w44 ⟨v123, rfl, ho0, hb, hkp⟩; refine ⟨_, rfl, ?_⟩; have n0_ := Aside0.mk (blk_kept (bk ac.out) hkp (fun hs_ => (fun e_ => (Kd.R_ne ag.out ac.out (by decide)) e_) hs_)); have n1_ := Aside0.mk (Kd.R_mono (ok' := fun k_ => True) ho0 (fun k_ hk_ => trivial)); have n2_ := Aside0.mk (hb); clear ac; clear HB; clear ag; have ac := n0_; have HO124 := n1_; have HB := n2_; clear n0_ n1_ n2_; (try clear hb); (try clear hkp); (try clear ho0)))
    go_roundg k1
    case measure => have := HK1.out; omega
    case rel => (try rw [hji32]); (try rw [hji34]); exact ⟨(t122), (wrap64 (x13_1 + 1)), (by first | rfl | (simp; done) | (simp [*]; done)), H', ⟨by have := HK1.out; omega⟩, ⟨by (with_reducible repeat (first | apply Kd.R_alloc | apply Kd.R_drewN | apply Kd.R_drew)); exact HO124.out⟩, ⟨bw⟩⟩
   rw [if_pos c12] at H
   have c12b0 : (((rd_T50 l0 x13_1).f0) == 4) = true := beq_iff_eq.mpr c12
   have c12b1 : (((rd_T50 l0 x13_1).f0) != 4) = false := bne_eq_false_iff_eq.mpr c12
   clear c12
   by_cases c13 : ((rd_T50 l0 x13_1).f1) = 0; rotate_left
   ·rw [if_neg c13] at H
    have c13b0 : (((rd_T50 l0 x13_1).f1) == 0) = false := beq_eq_false_iff_ne.mpr c13
    have c13b1 : (((rd_T50 l0 x13_1).f1) != 0) = true := bne_iff_ne.mpr c13
    simp only [Option.some.injEq, Prod.mk.injEq] at H
    obtain ⟨rfl, rfl⟩ := H
    have p113 : 0 ≤ (x13_1 : Int) := od
    have q113 : x13_1 < (l0.length : Int) := od
    obtain ⟨aj, e113, ad, ae, af⟩ := at_T50 HR0.out x13_1 p113 q113
    cases e113
    replace ad := (HB.out.cell (World.block_lt_of_cell? w _ ad)).trans ad
    replace ae := (HB.out.cell (World.block_lt_of_cell? w _ ae)).trans ae
    replace af := (HB.out.cell (World.block_lt_of_cell? w _ af)).trans af
    replace p113 := eq_true p113
    replace q113 := eq_true q113
    go_wp2_with (first | ((with_reducible refine gate_dst (N := 6) rfl ?_); refine box_event ?hg (N := 6) ?hd (cs := #[.int .i64 0, .int .u64 0, .string (⟨#[]⟩ : ByteArray)]) (t := 50) ?hr ?_; (case hd => rfl); (case hg => rfl); (case hr => first | (go_simp; done) | (go_simp; rfl)); intro ab hg w26 hbox hb; have n0_ := Aside0.mk (Kd.R_below (by (with_reducible repeat (first | apply Kd.R_alloc | apply Kd.R_drewN | apply Kd.R_drew)); exact ag.out) hb); have n1_ := Aside0.mk (below_step bw hb); have n2_ := Aside0.mk (hbox); have n3_ := Aside0.mk ((g1 hg bw : w.heap.size ≤ ab)); have n4_ := Aside0.mk ((g1 hg bw : w.heap.size ≤ ab)); clear ag; clear HB; have ag := n0_; have HB := n1_; have ac := n2_; have ah := n3_; have ai := n4_; clear n0_ n1_ n2_ n3_ n4_; clear hb hbox hg; obtain ⟨hcz27_0, hcz27_1, hcz27_2, hfz27_0, hfz27_1, hfz27_2⟩ := bx3 ac.out))
    go_ret2
    exact ⟨er, bw⟩
   rw [if_pos c13] at H
   have c13b0 : (((rd_T50 l0 x13_1).f1) == 0) = true := beq_iff_eq.mpr c13
   have c13b1 : (((rd_T50 l0 x13_1).f1) != 0) = false := bne_eq_false_iff_eq.mpr c13
   clear c13
   by_cases c14 : (((rd_T50 l0 x13_1).f2).size : Int) > 100000
   ·rw [if_pos c14] at H
    have c14b0 : decide (100000 < (((rd_T50 l0 x13_1).f2).size : Int)) = true := decide_eq_true c14
    have c14b1 : decide (100000 < ((rd_T50 l0 x13_1).f2).size) = true := decide_eq_true (by omega)
    clear c14
    simp only [Option.some.injEq, Prod.mk.injEq] at H
    obtain ⟨rfl, rfl⟩ := H
    have p113 : 0 ≤ (x13_1 : Int) := od
    have q113 : x13_1 < (l0.length : Int) := od
    obtain ⟨aj, e113, ad, ae, af⟩ := at_T50 HR0.out x13_1 p113 q113
    cases e113
    replace ad := (HB.out.cell (World.block_lt_of_cell? w _ ad)).trans ad
    replace ae := (HB.out.cell (World.block_lt_of_cell? w _ ae)).trans ae
    replace af := (HB.out.cell (World.block_lt_of_cell? w _ af)).trans af
    replace p113 := eq_true p113
    replace q113 := eq_true q113
    go_wp2_with (first | ((with_reducible refine gate_dst (N := 6) rfl ?_); refine box_event ?hg (N := 6) ?hd (cs := #[.int .i64 0, .int .u64 0, .string (⟨#[]⟩ : ByteArray)]) (t := 50) ?hr ?_; (case hd => rfl); (case hg => rfl); (case hr => first | (go_simp; done) | (go_simp; rfl)); intro ab hg w15 hbox hb; have n0_ := Aside0.mk (Kd.R_below (by (with_reducible repeat (first | apply Kd.R_alloc | apply Kd.R_drewN | apply Kd.R_drew)); exact ag.out) hb); have n1_ := Aside0.mk (below_step bw hb); have n2_ := Aside0.mk (hbox); have n3_ := Aside0.mk ((g1 hg bw : w.heap.size ≤ ab)); have n4_ := Aside0.mk ((g1 hg bw : w.heap.size ≤ ab)); clear ag; clear HB; have ag := n0_; have HB := n1_; have ac := n2_; have ah := n3_; have ai := n4_; clear n0_ n1_ n2_ n3_ n4_; clear hb hbox hg; obtain ⟨hcz16_0, hcz16_1, hcz16_2, hfz16_0, hfz16_1, hfz16_2⟩ := bx3 ac.out))
    go_ret2
    exact ⟨er, bw⟩
   rw [if_neg c14] at H
   have c14b0 : decide (100000 < (((rd_T50 l0 x13_1).f2).size : Int)) = false := decide_eq_false c14
   have c14b1 : decide (100000 < ((rd_T50 l0 x13_1).f2).size) = false := decide_eq_false (by omega)
   clear c14
   replace H := Option.bind_eq_some_iff.mp H
   obtain ⟨t115, A170, H⟩ := H
   replace H : (if t115.length + ((rd_T50 l0 x13_1).f2).size < 140737488355328 then (codec_Encode.l0 k1 (t115 ++ bytesOf ((rd_T50 l0 x13_1).f2)) l0 (l0.length : Int) (wrap64 (x13_1 + 1))) else (none)) = some (r1, r2) := H
   have A17 := Aside0.mk A170
   clear A170
   by_cases c18 : t115.length + ((rd_T50 l0 x13_1).f2).size < 140737488355328; rotate_left
   ·rw [if_neg c18] at H
    exact absurd H (by simp)
   rw [if_pos c18] at H
   have LMc18 := Aside0.mk c18
   clear c18
   obtain ⟨y118, hy118⟩ : ∃ y_ : List Int, y_ = (t115 ++ bytesOf ((rd_T50 l0 x13_1).f2)) := ⟨_, rfl⟩
   replace H : (codec_Encode.l0 k1 y118 l0 (l0.length : Int) (wrap64 (x13_1 + 1))) = some (r1, r2) := by first | (rw [hy118]; with_reducible exact H) | (have H2_ := (Option.bind_some _ _).symm.trans H; rw [hy118]; with_reducible exact H2_) | (have H2_ := (Option.bind_some _ _).symm.trans H; with_reducible exact H2_) | with_reducible exact H | (rw [hy118]; exact H) | exact H
   have Ny118 := Aside0.mk hy118
   clear hy118
   have H' := Aside0.mk H
   clear H
   have p113 : 0 ≤ (x13_1 : Int) := od
   have q113 : x13_1 < (l0.length : Int) := od
   obtain ⟨aj, e113, ad, ae, af⟩ := at_T50 HR0.out x13_1 p113 q113
   cases e113
   replace ad := (HB.out.cell (World.block_lt_of_cell? w _ ad)).trans ad
   replace ae := (HB.out.cell (World.block_lt_of_cell? w _ ae)).trans ae
   replace af := (HB.out.cell (World.block_lt_of_cell? w _ af)).trans af
   replace p113 := eq_true p113
   replace q113 := eq_true q113
   try go_wp2_with (first | ((with_reducible refine gate_dst (N := 6) rfl ?_); refine box_event ?hg (N := 6) ?hd (cs := #[.int .i64 0, .int .u64 0, .string (⟨#[]⟩ : ByteArray)]) (t := 50) ?hr ?_; (case hd => rfl); (case hg => rfl); (case hr => first | (go_simp; done) | (go_simp; rfl)); intro ab hg w19 hbox hb; have n0_ := Aside0.mk (Kd.R_below (by (with_reducible repeat (first | apply Kd.R_alloc | apply Kd.R_drewN | apply Kd.R_drew)); exact ag.out) hb); have n1_ := Aside0.mk (below_step bw hb); have n2_ := Aside0.mk (hbox); have n3_ := Aside0.mk ((g1 hg bw : w.heap.size ≤ ab)); have n4_ := Aside0.mk ((g1 hg bw : w.heap.size ≤ ab)); clear ag; clear HB; have ag := n0_; have HB := n1_; have ac := n2_; have ah := n3_; have ai := n4_; clear n0_ n1_ n2_ n3_ n4_; clear hb hbox hg; obtain ⟨hcz20_0, hcz20_1, hcz20_2, hfz20_0, hfz20_1, hfz20_2⟩ := bx3 ac.out))
   have n0_ : Aside0 (Kd.R (Kd.int .u8) 5 (((w19.setCell ⟨ab, 0, none⟩ (.int .i64 ((rd_T50 l0 x13_1).f0))).setCell ⟨ab, 1, none⟩ (.int .u64 ((rd_T50 l0 x13_1).f1))).setCell ⟨ab, 2, none⟩ (.string ((rd_T50 l0 x13_1).f2))) w.heap.size (fun _ => True) u4 x4_1) := ⟨by (with_reducible repeat (first | apply Kd.R_alloc | apply Kd.R_drewN | apply Kd.R_drew)); exact Kd.R_mono (Kd.R_far (p := ⟨ab, 2, none⟩) (Kd.R_far (p := ⟨ab, 1, none⟩) (Kd.R_far (p := ⟨ab, 0, none⟩) (Kd.R_types ag.out ac.out (by decide)) (fun _ hk => hk.2) (.int .i64 ((rd_T50 l0 x13_1).f0))) (fun _ hk => hk.2) (.int .u64 ((rd_T50 l0 x13_1).f1))) (fun _ hk => hk.2) (.string ((rd_T50 l0 x13_1).f2))) (fun _ hk => trivial)⟩
   have n1_ : Aside0 ((((w19.setCell ⟨ab, 0, none⟩ (.int .i64 ((rd_T50 l0 x13_1).f0))).setCell ⟨ab, 1, none⟩ (.int .u64 ((rd_T50 l0 x13_1).f1))).setCell ⟨ab, 2, none⟩ (.string ((rd_T50 l0 x13_1).f2))).heap[ab]? = some (.cells #[.int .i64 ((rd_T50 l0 x13_1).f0), .int .u64 ((rd_T50 l0 x13_1).f1), .string ((rd_T50 l0 x13_1).f2)] 50 (0, 0))) := ⟨by (with_reducible repeat (first | refine blk_drewN ?_ _ | refine blk_drew ?_ | refine blk_alloc ?_ _)); refine blk_put (cs := #[.int .i64 ((rd_T50 l0 x13_1).f0), .int .u64 ((rd_T50 l0 x13_1).f1), .string (⟨#[]⟩ : ByteArray)]) ?_ 2 _ rfl; (with_reducible repeat (first | refine blk_drewN ?_ _ | refine blk_drew ?_ | refine blk_alloc ?_ _)); refine blk_put (cs := #[.int .i64 ((rd_T50 l0 x13_1).f0), .int .u64 0, .string (⟨#[]⟩ : ByteArray)]) ?_ 1 _ rfl; (with_reducible repeat (first | refine blk_drewN ?_ _ | refine blk_drew ?_ | refine blk_alloc ?_ _)); refine blk_put (cs := #[.int .i64 0, .int .u64 0, .string (⟨#[]⟩ : ByteArray)]) ?_ 0 _ rfl; (with_reducible repeat (first | refine blk_drewN ?_ _ | refine blk_drew ?_ | refine blk_alloc ?_ _)); exact ac.out⟩
   have n2_ : Aside0 (Below w.heap.size w (((w19.setCell ⟨ab, 0, none⟩ (.int .i64 ((rd_T50 l0 x13_1).f0))).setCell ⟨ab, 1, none⟩ (.int .u64 ((rd_T50 l0 x13_1).f1))).setCell ⟨ab, 2, none⟩ (.string ((rd_T50 l0 x13_1).f2)))) := ⟨bw⟩
   (try clear ag)
   (try clear ac)
   (try clear HB)
   generalize (((w19.setCell ⟨ab, 0, none⟩ (.int .i64 ((rd_T50 l0 x13_1).f0))).setCell ⟨ab, 1, none⟩ (.int .u64 ((rd_T50 l0 x13_1).f1))).setCell ⟨ab, 2, none⟩ (.string ((rd_T50 l0 x13_1).f2))) = w21 at n0_ n1_ n2_ ⊢
   have ag := n0_
   have ac := n1_
   have HB := n2_
   clear n0_ n1_ n2_
   have n0_ := Aside0.mk (Kd.R_drew ag.out)
   have n1_ := Aside0.mk (blk_drew ac.out)
   have n2_ := Aside0.mk (below_drew1 HB.out)
   clear ag
   clear ac
   clear HB
   have ag := n0_
   have ac := n1_
   have HB := n2_
   clear n0_ n1_ n2_
   obtain ⟨an, ao, ax⟩ := Kd.R_slice ag.out
   (first | subst ax | (injection ax with f1_ f2_ f3_; have f4_ := f1_.symm; have f5_ := f3_.symm; clear f1_ f2_ f3_; subst f4_; subst f5_))
   refine start_ (n := 10) (S := fun w' => w'.cell? ⟨ab, 0, none⟩ = some (.int .i64 ((rd_T50 l0 x13_1).f0)) ∧ w'.cell? ⟨ab, 1, none⟩ = some (.int .u64 ((rd_T50 l0 x13_1).f1)) ∧ w'.cell? ⟨ab, 2, none⟩ = some (.string ((rd_T50 l0 x13_1).f2))) (ds := []) (bz 10 0) (by kernel_rfl) rfl rfl ⟨(blk_cell ac.out 0).trans rfl, (blk_cell ac.out 1).trans rfl, (blk_cell ac.out 2).trans rfl⟩ (fun hHeld => ?_); refine with_tabW codec_Encode.tab14 codec_Encode.bits14 (fun HT_ HW_ => ?_)
   generalize w21.drew = w22 at ag ac HB hHeld ⊢
   refine pu_ 0 (some 35) (bz 10 1) HT_.out ?_
   refine pu_ 1 (some 36) (bz 10 3) HT_.out ?_
   refine pu_ 6 (some 41) (bz 10 67) HT_.out ?_
   refine take_ (i := 2) (N := some 37) (v := ?_) (a' := ?_) (bz 10 71) rfl rfl (take_ofW HT_.out HW_.out (by kernel_rfl)) (fun _ _ _ h => h) (Or.inl ⟨by rfl, ?_⟩) hHeld ?_ ?_
   rotate_left
   ·rintro w' ⟨s0, s1, s2⟩
    go_simp
    with_reducible rfl
   rotate_left
   ·simp only [Act.put, sl1, sl2, sl3, i64_w, i32_w]
    rfl
   refine pu_ 3 (some 38) (bz 10 79) HT_.out ?_
   refine pu_ 4 (some 39) (bz 10 95) HT_.out ?_
   refine take_ (i := 7) (N := some 42) (v := ?_) (a' := ?_) (bz 10 223) rfl rfl (take_ofW HT_.out HW_.out (by kernel_rfl)) (fun _ _ _ h => h) (Or.inl ⟨by rfl, ?_⟩) hHeld ?_ ?_
   rotate_left
   ·rintro w' ⟨s0, s1, s2⟩
    go_simp
    with_reducible rfl
   rotate_left
   ·simp only [Act.put, sl1, sl2, sl3, i64_w, i32_w]
    rfl
   refine one_ (i := 5) (N := some 40) (bz 10 255) rfl rfl (one_of HT_.out (by kernel_rfl)) (by decide) (fun K hK => ?_)
   refine goes_ Tryd.func29 (by kernel_rfl) rfl #[.slice an x4_1.length ao, .int .u64 (IntKind.u64.wrap ((((rd_T50 l0 x13_1).f2).size : Int))), .int .i64 4] (by rfl) rfl rfl am ?_
   with_reducible refine (codec_put.calls k1 (fun k_ => some k_ = (.slice an x4_1.length ao : Value).ownBlock) (.slice an x4_1.length ao) x4_1 (IntKind.u64.wrap ((((rd_T50 l0 x13_1).f2).size : Int))) 4 t115 w _ ?side1 ?side2 A17.out).mono ?_
   (case side1 => repeat (first | (with_reducible first | exact HB.out | apply below_alloc | apply pw_below_drewN | apply below_drew1 | refine below_set ?_ ai.out) | exact HB.out))
   (case side2 => exact Kd.R_tight rfl ag.out)
   rintro e w24 ⟨v116, rfl, ho0, hb, hkp⟩
   refine ⟨_, rfl, ?_⟩
   have n0_ := Aside0.mk (blk_kept (bk ac.out) hkp (fun hs_ => (fun e_ => (Kd.R_ne ag.out ac.out (by decide)) e_) hs_))
   have n1_ := Aside0.mk (Kd.R_mono (ok' := fun k_ => True) ho0 (fun k_ hk_ => trivial))
   have n2_ := Aside0.mk (hb)
   clear ac
   clear HB
   clear ag
   have ac := n0_
   have al := n1_
   have HB := n2_
   clear n0_ n1_ n2_
   (try clear hb)
   (try clear hkp)
   (try clear ho0)
   refine hK.out _ _ ⟨(blk_cell ac.out 0).trans rfl, (blk_cell ac.out 1).trans rfl, (blk_cell ac.out 2).trans rfl⟩ (fun hHeld => ?_)
   clear hK K
   refine norm_ (a' := ?_) ?_ ?_
   rotate_left
   ·show Act.put _ (some 40) _ = _
    simp only [Act.put, sl1, sl2, sl3, i64_w, i32_w]
    rfl
   refine one_ (i := 8) (N := some 43) (bz 10 511) rfl rfl (one_of HT_.out (by kernel_rfl)) (by decide) (fun K hK => ?_)
   refine step_append_str (w0 := w) w.heap.size (by rfl) (.tmp 40) _ 72 9 5 rfl Tryd.underlying72 Tryd.underlying9 info5 v116 t115 ((rd_T50 l0 x13_1).f2) rfl rfl ?aO ?aB ?aS ?aL ?_
   (case aB => exact bw)
   (case aO => exact (Kd.own_of_R (by (with_reducible repeat (first | apply Kd.R_alloc | apply Kd.R_drewN | apply Kd.R_drew)); exact al.out)))
   (case aS => exact (below_size bw))
   (case aL => have := LMc18.out; omega)
   intro v119 w25 ho0 hb hg
   have ho := Kd.R_of_own (h1 := fun _ => rfl) (ok := fun _ => True) ho0 (fun _ _ => trivial)
   clear ho0
   have hat := True.intro
   rw [← Ny118.out] at ho
   change Kd.R (Kd.int .u8) 5 w25 w.heap.size (fun _ => True) v119 y118 at ho
   have n0_ := Aside0.mk (blk_grown (g := ab) (o := .cells #[.int .i64 ((rd_T50 l0 x13_1).f0), .int .u64 ((rd_T50 l0 x13_1).f1), .string ((rd_T50 l0 x13_1).f2)] 50 (0, 0)) (bk ac.out) hg (Kd.R_ne al.out ac.out (by decide)))
   have n1_ := Aside0.mk (hb)
   have n2_ := Aside0.mk (ho)
   clear ac
   clear HB
   clear al
   have ac := n0_
   have HB := n1_
   have HO120 := n2_
   clear n0_ n1_ n2_
   clear ho hb hg hat
   refine hK.out _ _ ⟨(blk_cell ac.out 0).trans rfl, (blk_cell ac.out 1).trans rfl, (blk_cell ac.out 2).trans rfl⟩ (fun hHeld => ?_)
   clear hK K
   refine norm_ (a' := ?_) ?_ ?_
   rotate_left
   ·show Act.put _ (some 43) _ = _
    simp only [Act.put, sl1, sl2, sl3, i64_w, i32_w]
    rfl
   refine pu_ 9 (some 4) (bz 10 1023) HT_.out ?_
   refine done_ (done_of HT_.out (by kernel_rfl)) ?_
   try go_wp2
   go_roundg k1
   case measure => have := HK1.out; omega
   case rel => exact ⟨(y118), (wrap64 (x13_1 + 1)), (by first | rfl | (simp; done) | (simp [*]; done)), H', ⟨by have := HK1.out; omega⟩, ⟨by (with_reducible repeat (first | apply Kd.R_alloc | apply Kd.R_drewN | apply Kd.R_drew)); exact HO120.out⟩, ⟨bw⟩⟩

/-! ### crc_word: function 30 -/
def crc_word.f (a0 : Int) : Option (ByteArray) := some (strOfNums (([(a0 / 16777216) % 256, (a0 / 65536) % 256, (a0 / 256) % 256, (a0) % 256] : List Int)))
set_option maxHeartbeats 8000000 in
set_option maxRecDepth 100000 in
theorem crc_word.calls (a0 : Int) (r : ByteArray) (w : World) (h : crc_word.f a0 = some r) :
  Calls Tryd.prog 30 #[.int .u32 a0] w fun e w' => e = .returned (.string r) ∧ Below w.heap.size w w' := by
 have HB := Aside0.mk (Below.refl w.heap.size w)
 have H : (some (strOfNums (([(a0 / 16777216) % 256, (a0 / 65536) % 256, (a0 / 256) % 256, (a0) % 256] : List Int)))) = some r := h
 clear h
 obtain ⟨y128, hy128⟩ : ∃ y_ : List Int, y_ = (([(a0 / 16777216) % 256, (a0 / 65536) % 256, (a0 / 256) % 256, (a0) % 256] : List Int)) := ⟨_, rfl⟩
 replace H : (some (strOfNums y128)) = some r := by first | (rw [hy128]; with_reducible exact H) | (have H2_ := (Option.bind_some _ _).symm.trans H; rw [hy128]; with_reducible exact H2_) | (have H2_ := (Option.bind_some _ _).symm.trans H; with_reducible exact H2_) | with_reducible exact H | (rw [hy128]; exact H) | exact H
 have Ny128 := Aside0.mk hy128
 clear hy128
 obtain rfl := Option.some.inj H
 go_enter Tryd.func30, Tryd.ntmps30
 go_wp2_with (first | ((with_reducible refine gate_dst (N := 14) rfl ?_); refine Kd.R_lit (Kd.int .u8) _ 5 ?hg (N := 14) ?hd (xs := ([(a0 / 16777216) % 256, (a0 / 65536) % 256, (a0 / 256) % 256, (a0) % 256] : List Int)) (inner := [.int .u8 ((a0 / 16777216) % 256), .int .u8 ((a0 / 65536) % 256), .int .u8 ((a0 / 256) % 256), .int .u8 ((a0) % 256)]) (ok := fun _ => True) (okp := fun _ => True) ?hr ?hp (fun _ hk => hk) trivial (Below.refl _ _) (Nat.le_refl _) (by simp) ?_; (case hd => rfl); (case hg => rfl); (case hr => first | (go_simp; done) | (go_simp; rfl)); (case hp => exact (Reps.one (show Kd.M (Kd.int .u8) _ _ _ ((a0 / 16777216) % 256) [.int .u8 ((a0 / 16777216) % 256)] from rfl) (Reps.one (show Kd.M (Kd.int .u8) _ _ _ ((a0 / 65536) % 256) [.int .u8 ((a0 / 65536) % 256)] from rfl) (Reps.one (show Kd.M (Kd.int .u8) _ _ _ ((a0 / 256) % 256) [.int .u8 ((a0 / 256) % 256)] from rfl) (Reps.one (show Kd.M (Kd.int .u8) _ _ _ ((a0) % 256) [.int .u8 ((a0) % 256)] from rfl) (Reps.none _ _)))))); intro v129 w2 ho3 hb hg_ hnew_; clear hg_ hnew_; (first | rw [← Ny128.out] at ho3 | (simp only [Int.reduceToNat] at ho3; rw [← Ny128.out] at ho3)); have n0_ := Aside0.mk (Kd.R_lower ho3 (below_size bw)); have n1_ := Aside0.mk (below_step bw hb); clear HB; have HO130 := n0_; have HB := n1_; clear n0_ n1_; clear hb ho3; have hcv4 := own_string (P := Tryd.prog) Tryd.underlying72 Tryd.underlying5 Tryd.underlying9 (Kd.own_of_R HO130.out)))
 go_ret
 exact ⟨er, bw⟩

/-! ### crc_More: function 31 -/
/-- What four steps make of a sum. -/
def crcStepN (s : Nat) : Nat := (s / 16) ^^^ (crcTabN.getD (s % 16) 0)
/-- What a byte makes of a sum. -/
def crcByteN (s c : Nat) : Nat := crcStepN (crcStepN (s ^^^ c))
def crcFoldN (s : Nat) (l : List UInt8) : Nat := l.foldl (fun s c => crcByteN s c.toNat) s
theorem crcTabN_lt (i : Nat) : crcTabN.getD i 0 < 4294967296 := by
 by_cases h : i < 16
 ·have : ∀ j : Fin 16, crcTabN.getD j.val 0 < 4294967296 := by decide
  exact this ⟨i, h⟩
 ·rw [List.getD_eq_getElem?_getD, List.getElem?_eq_none (by simp only [crcTabN, List.length_cons, List.length_nil]; omega)]
  decide
theorem xor_lt32 {a b : Nat} (ha : a < 4294967296) (hb : b < 4294967296) : a ^^^ b < 4294967296 := Nat.xor_lt_two_pow (n := 32) ha hb
theorem crcStepN_lt {s : Nat} (h : s < 4294967296) : crcStepN s < 4294967296 := xor_lt32 (by omega) (crcTabN_lt _)
theorem crcByteN_lt {s c : Nat} (h : s < 4294967296) (hc : c < 256) : crcByteN s c < 4294967296 := crcStepN_lt (crcStepN_lt (xor_lt32 h (by omega)))
theorem crcFoldN_lt (l : List UInt8) : ∀ {s : Nat}, s < 4294967296 → crcFoldN s l < 4294967296 := by
 induction l with
 | nil => intro s h; exact h
 | cons c l ih => intro s h; exact ih (crcByteN_lt h c.toNat_lt)
theorem crcFoldN_snoc (s : Nat) (l : List UInt8) (c : UInt8) : crcFoldN s (l ++ [c]) = crcByteN (crcFoldN s l) c.toNat := by simp [crcFoldN]
theorem take_snocD (l : List UInt8) (k : Nat) (h : k < l.length) : l.take (k + 1) = l.take k ++ [l.getD k 0] := by
 rw [List.take_succ_eq_append_getElem h]
 simp [List.getD_eq_getElem?_getD, List.getElem?_eq_getElem h]
theorem below_conv (w : World) (e : TypeId) (s : ByteArray) : Below w.heap.size w (Lib.bytesWorld w e s) :=
 ⟨rfl, rfl, rfl, by rw [Lib.bytesWorld_size]; omega, fun i hi => Lib.bytesWorld_at_old w e s i hi⟩
def crc_More.f (a0 : Int) (a1 : ByteArray) : Option (Int) := if 0 ≤ a0 ∧ a0 < 4294967296 ∧ a1.size ≤ 9223372036854775807 then some ((4294967295 ^^^ crcFoldN (4294967295 ^^^ a0.toNat) a1.data.toList : Nat) : Int) else none
set_option maxHeartbeats 2000000 in
set_option maxRecDepth 100000 in
theorem crc_More.calls (a0 : Int) (a1 : ByteArray) (r : Int) (w : World) (HT_ : TabOk w) (h : crc_More.f a0 a1 = some r) :
  Calls Tryd.prog 31 #[.int .u32 a0, .string a1] w fun e w' => e = .returned (.int .u32 r) ∧ Below w.heap.size w w' := by
 unfold crc_More.f at h
 split at h
 case isFalse => exact absurd h (by simp)
 rename_i hcnd
 obtain ⟨h0, h1, h2⟩ := hcnd
 obtain rfl := Option.some.inj h
 obtain ⟨n0, rfl⟩ : ∃ n0 : Nat, a0 = (n0 : Int) := ⟨a0.toNat, by omega⟩
 have hn0 : n0 < 4294967296 := by omega
 clear h h0 h1
 obtain ⟨b0, hb0⟩ : ∃ b : Nat, b = 4294967295 ^^^ n0 := ⟨_, rfl⟩
 have hbl : b0 < 4294967296 := by rw [hb0]; exact xor_lt32 (by omega) hn0
 have hinv : Go.bits .xor .u32 IntKind.u32.max (n0 : Int) = (b0 : Int) := by rw [hb0]; exact u32_xor_nat 4294967295 n0 (by omega) hn0
 have HB0 := Aside0.mk hb0
 clear hb0
 have hconv := Lib.run_convert_string_bytes (P := Tryd.prog) w 9 72 5 a1 Tryd.underlying9 Tryd.underlying72 Tryd.underlying5
 have HBW := Aside0.mk (below_conv w 5 a1)
 have HCB := Aside0.mk (Lib.bytesWorld_cell w 5 a1)
 have HT := Aside0.mk (TabOk.below HT_ (below_conv w 5 a1))
 generalize Lib.bytesWorld w 5 a1 = W1 at hconv HBW HCB HT
 clear HT_
 have hl : a1.data.toList.length = a1.size := by rw [Array.length_toList]; rfl
 have HL := Aside0.mk hl
 clear hl
 have hr : ((4294967295 ^^^ n0 : Nat) : Int).toNat = 4294967295 ^^^ n0 := rfl
 rw [show ((n0 : Int)).toNat = n0 from rfl, ← HB0.out]
 clear hr
 go_enter Tryd.func31, Tryd.ntmps31
 go_wp2
 go_loop [0, 12] (fun s i => ∃ (k m : Nat), k ≤ a1.size ∧ i = .int .i64 k ∧ s = .int .u32 (m : Int) ∧ m < 4294967296 ∧ Aside0 (m = crcFoldN b0 (a1.data.toList.take k))) (fun _ i => a1.size - (intOf i).toNat)
 case atStart => exact ⟨0, b0, Nat.zero_le _, rfl, rfl, hbl, ⟨by simp [crcFoldN]⟩⟩
 case round =>
  obtain ⟨k, m, hk, rfl, rfl, hm, HM⟩ := hrel
  by_cases hlt : k < a1.size
  ·have hc0 := HCB.out k hlt
   obtain ⟨c, hc⟩ : ∃ c : Nat, c = (a1.data.toList.getD k 0).toNat := ⟨_, rfl⟩
   rw [← hc] at hc0
   have hc1 : c < 256 := by rw [hc]; exact UInt8.toNat_lt _
   have HC := Aside0.mk hc
   clear hc
   obtain ⟨x1, hx1⟩ : ∃ x : Nat, x = m ^^^ c := ⟨_, rfl⟩
   have hx1l : x1 < 4294967296 := by rw [hx1]; exact xor_lt32 hm (by omega)
   have r1 : Go.bits .xor .u32 (m : Int) (c : Int) = (x1 : Int) := by rw [hx1]; exact u32_xor_nat m c hm (by omega)
   obtain ⟨n1, hn1⟩ : ∃ x : Nat, x = x1 % 16 := ⟨_, rfl⟩
   have hn1l : n1 < 16 := by omega
   have r2 : Go.bits .and .u32 (x1 : Int) 15 = (n1 : Int) := by
    rw [hn1]
    exact (u32_and_nat x1 15 hx1l (by omega)).trans (by rw [show x1 &&& 15 = x1 % 16 from Nat.and_two_pow_sub_one_eq_mod x1 4])
   obtain ⟨t1, ht1⟩ : ∃ x : Nat, x = crcTabN.getD n1 0 := ⟨_, rfl⟩
   have ht1l : t1 < 4294967296 := by rw [ht1]; exact crcTabN_lt _
   have hcell1 : W1.cell? ⟨1, n1, none⟩ = some (.int .u32 (t1 : Int)) := by rw [ht1]; exact TabOk.crc HT.out n1 hn1l
   obtain ⟨y1, hy1⟩ : ∃ x : Nat, x = (x1 / 16) ^^^ t1 := ⟨_, rfl⟩
   have hy1l : y1 < 4294967296 := by rw [hy1]; exact xor_lt32 (by omega) ht1l
   have r3 : Go.bits .xor .u32 ((x1 : Int) / 16) (t1 : Int) = (y1 : Int) := by rw [hy1]; exact u32_xor_nat (x1 / 16) t1 (by omega) ht1l
   obtain ⟨n2, hn2⟩ : ∃ x : Nat, x = y1 % 16 := ⟨_, rfl⟩
   have hn2l : n2 < 16 := by omega
   have r4 : Go.bits .and .u32 (y1 : Int) 15 = (n2 : Int) := by
    rw [hn2]
    exact (u32_and_nat y1 15 hy1l (by omega)).trans (by rw [show y1 &&& 15 = y1 % 16 from Nat.and_two_pow_sub_one_eq_mod y1 4])
   obtain ⟨t2, ht2⟩ : ∃ x : Nat, x = crcTabN.getD n2 0 := ⟨_, rfl⟩
   have ht2l : t2 < 4294967296 := by rw [ht2]; exact crcTabN_lt _
   have hcell2 : W1.cell? ⟨1, n2, none⟩ = some (.int .u32 (t2 : Int)) := by rw [ht2]; exact TabOk.crc HT.out n2 hn2l
   obtain ⟨y2, hy2⟩ : ∃ x : Nat, x = (y1 / 16) ^^^ t2 := ⟨_, rfl⟩
   have hy2l : y2 < 4294967296 := by rw [hy2]; exact xor_lt32 (by omega) ht2l
   have r5 : Go.bits .xor .u32 ((y1 : Int) / 16) (t2 : Int) = (y2 : Int) := by rw [hy2]; exact u32_xor_nat (y1 / 16) t2 (by omega) ht2l
   have HF : Aside0 (y2 = crcFoldN b0 (a1.data.toList.take (k + 1))) := ⟨by
    rw [take_snocD _ k (by rw [HL.out]; exact hlt), crcFoldN_snoc, ← HM.out, ← HC.out, hy2, ht2, hn2, hy1, ht1, hn1, hx1]
    rfl⟩
   have hcm : (c : Int) % 4294967296 = (c : Int) := by omega
   clear hx1 hn1 ht1 hy1 hn2 ht2 hy2
   go_wp2
   go_round
   case rel => exact ⟨k + 1, y2, by omega, by go_num, rfl, hy2l, HF⟩
   case measure => simp [intOf]; omega
  ·obtain rfl : k = a1.size := by omega
   have hfin : Go.bits .xor .u32 IntKind.u32.max (m : Int) = ((4294967295 ^^^ m : Nat) : Int) := u32_xor_nat 4294967295 m (by omega) hm
   go_wp2
   go_ret
   exact ⟨congrArg (fun x : Nat => Ending.returned (.int .u32 ((4294967295 ^^^ x : Nat) : Int))) (HM.out.trans (by rw [← HL.out, List.take_length])), HBW.out⟩

/-! ### crc_Sum: function 32 -/
def crc_Sum.f (a0 : ByteArray) : Option (Int) := (crc_More.f 0 a0).bind fun t131 => (some t131)
set_option maxHeartbeats 8000000 in
set_option maxRecDepth 100000 in
theorem crc_Sum.calls (a0 : ByteArray) (r : Int) (w : World) (HT_ : TabOk w) (h : crc_Sum.f a0 = some r) :
  Calls Tryd.prog 32 #[.string a0] w fun e w' => e = .returned (.int .u32 r) ∧ Below w.heap.size w w' := by
 have HT := Aside0.mk HT_
 clear HT_
 have HB := Aside0.mk (Below.refl w.heap.size w)
 have H : ((crc_More.f 0 a0).bind fun t131 => (some t131)) = some r := h
 clear h
 replace H := Option.bind_eq_some_iff.mp H
 obtain ⟨t131, A20, H⟩ := H
 replace H : (some t131) = some r := H
 have A2 := Aside0.mk A20
 clear A20
 obtain rfl := Option.some.inj H
 go_enter Tryd.func32, Tryd.ntmps32
 go_wp2_with (first | ((with_reducible refine gate_callee (f := 31) rfl ?_); refine goesL_ (some 4) rfl rfl Tryd.func31 (by kernel_rfl) rfl #[.int .u32 0, .string a0] rfl am ?_; (with_reducible refine (crc_More.calls 0 a0 t131 _ tbk A2.out).mono ?_); rintro e w3 ⟨rfl, hb⟩; refine ⟨_, rfl, ?_⟩; have n0_ := Aside0.mk (below_step bw hb); clear HB; have HB := n0_; clear n0_; (try clear hb)))
 go_ret
 exact ⟨er, bw⟩

/-! ### crc_Frame: function 17 -/
def crc_Frame.f (a0 : ByteArray) : Option (ByteArray × Int) := if (a0.size : Int) > 400000 then (some ((⟨#[]⟩ : ByteArray), 3)) else ((crc_word.f (((a0.size : Int)) % 4294967296)).bind fun t132 => ((crc_Sum.f t132).bind fun t133 => ((crc_More.f t133 a0).bind fun t134 => ((crc_word.f t134).bind fun t135 => (if t132.size + t135.size ≤ 9223372036854775807 then (if (t132 ++ t135).size + a0.size ≤ 9223372036854775807 then (some ((t132 ++ t135) ++ a0, 0)) else (none)) else (none))))))
set_option maxHeartbeats 8000000 in
set_option maxRecDepth 100000 in
theorem crc_Frame.calls (a0 : ByteArray) (r1 : ByteArray) (r2 : Int) (w : World) (HT_ : TabOk w) (h : crc_Frame.f a0 = some (r1, r2)) :
  Calls Tryd.prog 17 #[.string a0] w fun e w' => e = .returned (.tuple #[.string r1, .int .i64 r2]) ∧ Below w.heap.size w w' := by
 have HT := Aside0.mk HT_
 clear HT_
 have HB := Aside0.mk (Below.refl w.heap.size w)
 have H : (if (a0.size : Int) > 400000 then (some ((⟨#[]⟩ : ByteArray), 3)) else ((crc_word.f (((a0.size : Int)) % 4294967296)).bind fun t132 => ((crc_Sum.f t132).bind fun t133 => ((crc_More.f t133 a0).bind fun t134 => ((crc_word.f t134).bind fun t135 => (if t132.size + t135.size ≤ 9223372036854775807 then (if (t132 ++ t135).size + a0.size ≤ 9223372036854775807 then (some ((t132 ++ t135) ++ a0, 0)) else (none)) else (none))))))) = some (r1, r2) := h
 clear h
 by_cases c2 : (a0.size : Int) > 400000
 ·rw [if_pos c2] at H
  have c2b0 : decide (400000 < (a0.size : Int)) = true := decide_eq_true c2
  have c2b1 : decide (400000 < a0.size) = true := decide_eq_true (by omega)
  clear c2
  simp only [Option.some.injEq, Prod.mk.injEq] at H
  obtain ⟨rfl, rfl⟩ := H
  go_enter Tryd.func17, Tryd.ntmps17
  go_wp2
  go_ret2
  exact ⟨er, bw⟩
 rw [if_neg c2] at H
 have c2b0 : decide (400000 < (a0.size : Int)) = false := decide_eq_false c2
 have c2b1 : decide (400000 < a0.size) = false := decide_eq_false (by omega)
 clear c2
 replace H := Option.bind_eq_some_iff.mp H
 obtain ⟨t132, A30, H⟩ := H
 replace H : ((crc_Sum.f t132).bind fun t133 => ((crc_More.f t133 a0).bind fun t134 => ((crc_word.f t134).bind fun t135 => (if t132.size + t135.size ≤ 9223372036854775807 then (if (t132 ++ t135).size + a0.size ≤ 9223372036854775807 then (some ((t132 ++ t135) ++ a0, 0)) else (none)) else (none))))) = some (r1, r2) := H
 have A3 := Aside0.mk A30
 clear A30
 replace H := Option.bind_eq_some_iff.mp H
 obtain ⟨t133, A40, H⟩ := H
 replace H : ((crc_More.f t133 a0).bind fun t134 => ((crc_word.f t134).bind fun t135 => (if t132.size + t135.size ≤ 9223372036854775807 then (if (t132 ++ t135).size + a0.size ≤ 9223372036854775807 then (some ((t132 ++ t135) ++ a0, 0)) else (none)) else (none)))) = some (r1, r2) := H
 have A4 := Aside0.mk A40
 clear A40
 replace H := Option.bind_eq_some_iff.mp H
 obtain ⟨t134, A50, H⟩ := H
 replace H : ((crc_word.f t134).bind fun t135 => (if t132.size + t135.size ≤ 9223372036854775807 then (if (t132 ++ t135).size + a0.size ≤ 9223372036854775807 then (some ((t132 ++ t135) ++ a0, 0)) else (none)) else (none))) = some (r1, r2) := H
 have A5 := Aside0.mk A50
 clear A50
 replace H := Option.bind_eq_some_iff.mp H
 obtain ⟨t135, A60, H⟩ := H
 replace H : (if t132.size + t135.size ≤ 9223372036854775807 then (if (t132 ++ t135).size + a0.size ≤ 9223372036854775807 then (some ((t132 ++ t135) ++ a0, 0)) else (none)) else (none)) = some (r1, r2) := H
 have A6 := Aside0.mk A60
 clear A60
 by_cases c7 : t132.size + t135.size ≤ 9223372036854775807; rotate_left
 ·rw [if_neg c7] at H
  exact absurd H (by simp)
 rw [if_pos c7] at H
 have c7b0 := eq_true c7
 have c7b1 : decide (t132.size + t135.size ≤ 9223372036854775807) = true := decide_eq_true c7
 try have c7b2 : (9223372036854775807 < t132.size + t135.size) = False := eq_false (Nat.not_lt.2 c7)
 by_cases c8 : (t132 ++ t135).size + a0.size ≤ 9223372036854775807; rotate_left
 ·rw [if_neg c8] at H
  exact absurd H (by simp)
 rw [if_pos c8] at H
 have c8b0 := eq_true c8
 have c8b1 : decide ((t132 ++ t135).size + a0.size ≤ 9223372036854775807) = true := decide_eq_true c8
 try have c8b2 : (9223372036854775807 < (t132 ++ t135).size + a0.size) = False := eq_false (Nat.not_lt.2 c8)
 simp only [Option.some.injEq, Prod.mk.injEq] at H
 obtain ⟨rfl, rfl⟩ := H
 go_enter Tryd.func17, Tryd.ntmps17
 go_wp2_with (first | ((with_reducible refine gate_callee (f := 30) rfl ?_); refine goesL_ (some 11) rfl rfl Tryd.func30 (by kernel_rfl) rfl #[.int .u32 (((a0.size : Int)) % 4294967296)] rfl am ?_; (with_reducible refine (crc_word.calls (((a0.size : Int)) % 4294967296) t132 _ A3.out).mono ?_); rintro e w9 ⟨rfl, hb⟩; refine ⟨_, rfl, ?_⟩; have n0_ := Aside0.mk (below_step bw hb); clear HB; have HB := n0_; clear n0_; (try clear hb)) | ((with_reducible refine gate_callee (f := 32) rfl ?_); refine goesL_ (some 14) rfl rfl Tryd.func32 (by kernel_rfl) rfl #[.string t132] rfl am ?_; (with_reducible refine (crc_Sum.calls t132 t133 _ tbk A4.out).mono ?_); rintro e w10 ⟨rfl, hb⟩; refine ⟨_, rfl, ?_⟩; have n0_ := Aside0.mk (below_step bw hb); clear HB; have HB := n0_; clear n0_; (try clear hb)) | ((with_reducible refine gate_callee (f := 31) rfl ?_); refine goesL_ (some 16) rfl rfl Tryd.func31 (by kernel_rfl) rfl #[.int .u32 t133, .string a0] rfl am ?_; (with_reducible refine (crc_More.calls t133 a0 t134 _ tbk A5.out).mono ?_); rintro e w11 ⟨rfl, hb⟩; refine ⟨_, rfl, ?_⟩; have n0_ := Aside0.mk (below_step bw hb); clear HB; have HB := n0_; clear n0_; (try clear hb)) | ((with_reducible refine gate_callee (f := 30) rfl ?_); refine goesL_ (some 17) rfl rfl Tryd.func30 (by kernel_rfl) rfl #[.int .u32 t134] rfl am ?_; (with_reducible refine (crc_word.calls t134 t135 _ A6.out).mono ?_); rintro e w12 ⟨rfl, hb⟩; refine ⟨_, rfl, ?_⟩; have n0_ := Aside0.mk (below_step bw hb); clear HB; have HB := n0_; clear n0_; (try clear hb)))
 go_ret2
 exact ⟨er, bw⟩

end Go.Proofs.YtdpogggajdfedaaDoor.P
