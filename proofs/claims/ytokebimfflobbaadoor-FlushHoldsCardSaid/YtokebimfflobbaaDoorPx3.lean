-- Printed by this session's program wip/xp.py (a turned copy of the kit's printer): functions, their contracts.
import Derived.Test.YtokebimfflobbaaDoorPx0
import Derived.Test.YtokebimfflobbaaDoorPx2
namespace Go.Proofs.YtokebimfflobbaaDoor.P
open Go.RowKit Go.Proofs.YtokebimfflobbaaDoorW.PrintWords Go.Proofs.YtokebimfflobbaaDoorW.PrintLast Go.Proofs.YtokebimfflobbaaDoorW.PrintMore
attribute [local go_sem] max2_int min2_int max_two min_two max_three min_three max_four min_four   -- for this text's walks alone
set_option linter.unusedVariables false
set_option linter.unusedSimpArgs false

/-! ### codec_Encode: function 21 -/
def codec_Encode.l0 : Nat → List Int → List (S58) → Int → Int → Option (ByteArray × Int)
 | 0, _, _, _, _ => none
 | k + 1, x4, x11, x12, x13 => if x13 < x12 then (if 0 ≤ x13 then (if x13 < (x11.length : Int) then (if ((rd_T58 x11 x13).f0) < 1 then (some ((⟨#[]⟩ : ByteArray), 1)) else (if ((rd_T58 x11 x13).f0) > 4 then (some ((⟨#[]⟩ : ByteArray), 1)) else (if ((rd_T58 x11 x13).f0) = 4 then (if ((rd_T58 x11 x13).f1) = 0 then (if (((rd_T58 x11 x13).f2).size : Int) > 100000 then (some ((⟨#[]⟩ : ByteArray), 3)) else ((codec_put.f k x4 (IntKind.u64.wrap ((((rd_T58 x11 x13).f2).size : Int))) 4).bind fun t121 => (if t121.length + ((rd_T58 x11 x13).f2).size < 140737488355328 then (codec_Encode.l0 k (t121 ++ bytesOf ((rd_T58 x11 x13).f2)) x11 x12 (wrap64 (x13 + 1))) else (none)))) else (some ((⟨#[]⟩ : ByteArray), 1))) else (if 0 ≤ ((rd_T58 x11 x13).f0) then (if ((rd_T58 x11 x13).f0) < 5 then (if ((rd_T58 x11 x13).f2).toList = ([] : List UInt8) then (if (rd sizTabI ((rd_T58 x11 x13).f0)) < 8 then (if 0 ≤ (wrap64 (8 * (rd sizTabI ((rd_T58 x11 x13).f0)))) then (if (shr .u64 ((rd_T58 x11 x13).f1) (wrap64 (8 * (rd sizTabI ((rd_T58 x11 x13).f0))))) > 0 then (some ((⟨#[]⟩ : ByteArray), 1)) else ((codec_put.f k x4 ((rd_T58 x11 x13).f1) (rd sizTabI ((rd_T58 x11 x13).f0))).bind fun t128 => (codec_Encode.l0 k t128 x11 x12 (wrap64 (x13 + 1))))) else (none)) else ((codec_put.f k x4 ((rd_T58 x11 x13).f1) (rd sizTabI ((rd_T58 x11 x13).f0))).bind fun t131 => (codec_Encode.l0 k t131 x11 x12 (wrap64 (x13 + 1))))) else (some ((⟨#[]⟩ : ByteArray), 1))) else (none)) else (none))))) else (none)) else (none)) else (some (strOfNums x4, 0))
def codec_Encode.f (k : Nat) (l0 : List (S58)) : Option (ByteArray × Int) := if (l0.length : Int) > 1000 then (some ((⟨#[]⟩ : ByteArray), 3)) else (codec_Encode.l0 k ([] : List Int) l0 (l0.length : Int) 0)
theorem codec_Encode.mono_l : ∀ k, (∀ y0 y1 y2 y3, LeO (codec_Encode.l0 k y0 y1 y2 y3) (codec_Encode.l0 (k + 1) y0 y1 y2 y3))
 | 0 => fun _ _ _ _ r h => by simp [codec_Encode.l0] at h
 | k + 1 => by
  have ih0 := codec_Encode.mono_l k
  ·intro y0 y1 y2 y3
   unfold codec_Encode.l0
   repeat' first
   | (with_reducible exact ih0 _ _ _ _)
   | (with_reducible exact codec_put.mono _ _ _ _)
   | (with_reducible exact LeO.refl _)
   | (with_reducible exact LeO.none _)
   | (with_reducible refine LeO.ite ?_ ?_)
   | (with_reducible refine LeO.bind ?_ (fun _ => ?_))
   | exact ih0 _ _ _ _
   | exact codec_put.mono _ _ _ _
   | exact LeO.none _
   | refine LeO.ite ?_ ?_
   | refine LeO.bind ?_ (fun _ => ?_)
theorem codec_Encode.mono : ∀ a0 k, LeO (codec_Encode.f k a0) (codec_Encode.f (k + 1) a0) := by
 intro a0 k
 have ih0 := codec_Encode.mono_l k
 unfold codec_Encode.f
 repeat' first
   | (with_reducible exact ih0 _ _ _ _)
   | (with_reducible exact codec_put.mono _ _ _ _)
   | (with_reducible exact LeO.refl _)
   | (with_reducible exact LeO.none _)
   | (with_reducible refine LeO.ite ?_ ?_)
   | (with_reducible refine LeO.bind ?_ (fun _ => ?_))
   | exact ih0 _ _ _ _
   | exact codec_put.mono _ _ _ _
   | exact LeO.none _
   | refine LeO.ite ?_ ?_
   | refine LeO.bind ?_ (fun _ => ?_)
def codec_Encode.T14 : Bool × List (List Nat × List Nat) := (true, [([], []), ([], []), ([1], [1]), ([2], [2]), ([3], [3]), ([0, 4], [0, 4]), ([], []), ([6], [6]), ([5, 7, 5], [5, 7]), ([8, 8, 0, 1, 2, 3, 4, 5, 6, 7, 8], [0, 8])])
def codec_Encode.B14 : List Nat := [0, 0, 2, 6, 14, 31, 0, 64, 255, 511]
theorem codec_Encode.tab14 : rtab .any (opsOf Tryd.f21 14) = codec_Encode.T14 := by kernel_rfl
theorem codec_Encode.bits14 : waitsOk codec_Encode.T14.2 codec_Encode.B14 = true := by kernel_rfl
set_option maxHeartbeats 8000000 in
set_option maxRecDepth 100000 in
theorem codec_Encode.calls (k : Nat) (A0 : Option Addr) (c0 : Nat) (l0 : List (S58)) (r1 : ByteArray) (r2 : Int) (w : World) (hr0 : Kd.C k58 w A0 l0.length l0) (hc0 : l0.length ≤ c0) (HT_ : TabOk w) (h : codec_Encode.f k l0 = some (r1, r2)) :
  Calls Tryd.prog 21 #[.slice A0 l0.length c0] w fun e w' => e = .returned (.tuple #[.string r1, .int .i64 r2]) ∧ Below w.heap.size w w' := by
 have HT := Aside0.mk HT_
 have HRGsiz := Aside0.mk HT_.sizC
 clear HT_
 have hu58 := Tryd.underlying58
 have HR0 := Aside0.mk hr0
 have HC0 := Aside0.mk hc0
 clear hr0 hc0
 have HB := Aside0.mk (Below.refl w.heap.size w)
 have H : (if (l0.length : Int) > 1000 then (some ((⟨#[]⟩ : ByteArray), 3)) else (codec_Encode.l0 k ([] : List Int) l0 (l0.length : Int) 0)) = some (r1, r2) := h
 clear h
 by_cases c2 : (l0.length : Int) > 1000
 ·rw [if_pos c2] at H
  have av : decide (1000 < (l0.length : Int)) = true := decide_eq_true c2
  have aw : decide (1000 < l0.length) = true := decide_eq_true (by omega)
  clear c2
  simp only [Option.some.injEq, Prod.mk.injEq] at H
  obtain ⟨rfl, rfl⟩ := H
  go_enter Tryd.func21, Tryd.ntmps21
  go_wp2
  go_ret2
  exact ⟨er, bw⟩
 rw [if_neg c2] at H
 have av : decide (1000 < (l0.length : Int)) = false := decide_eq_false c2
 have aw : decide (1000 < l0.length) = false := decide_eq_false (by omega)
 clear c2
 have H' := Aside0.mk H
 clear H
 go_enter Tryd.func21, Tryd.ntmps21
 go_wp2
 go_loopg [4, 13] k (fun kq v4 v13 w' => ∃ (x4_1 : List Int) (x13_1 : Int), v13 = .int .i64 x13_1 ∧ Aside0 (codec_Encode.l0 kq x4_1 l0 (l0.length : Int) x13_1 = some (r1, r2)) ∧ Aside0 (kq ≤ k) ∧ Aside0 (Kd.R (Kd.int .u8) 5 w' w.heap.size (fun _ => True) v4 x4_1) ∧ Aside0 (Below w.heap.size w w'))
 case atStart => exact ⟨(([] : List Int)), (0), (by first | rfl | (simp; done) | (simp [*]; done)), H', ⟨Nat.le_refl _⟩, ⟨by first | exact Kd.R_nil _ _ _ _ _ | exact Kd.N_nil _ _ _ _ _ | exact Kd.V_nil _ _ _ _ _ | exact Kd.Q_nil _ _ _ _ _ | exact Kd.S_nil _ _ _ _ _⟩, ⟨bw⟩⟩
 case round =>
  clear H'
  try clear c2
  try clear av
  try clear aw
  try clear p2
  obtain ⟨x4_1, x13_1, rfl, HA, HK1, ag, HB⟩ := hrel
  cases gk with
  | zero => exact absurd HA.out (by simp [codec_Encode.l0])
  | succ k1 =>
   have H := HA.out
   clear HA
   simp only [codec_Encode.l0] at H
   by_cases c3 : x13_1 < (l0.length : Int); rotate_left
   ·rw [if_neg c3] at H
    have c3b0 : decide (x13_1 < (l0.length : Int)) = false := decide_eq_false c3
    clear c3
    simp only [Option.some.injEq, Prod.mk.injEq] at H
    obtain ⟨rfl, rfl⟩ := H
    have hcv54 := own_string (P := Tryd.prog) Tryd.underlying60 Tryd.underlying5 Tryd.underlying9 (Kd.own_of_R ag.out)
    go_wp2
    go_ret2
    exact ⟨er, bw⟩
   rw [if_pos c3] at H
   have c3b0 : decide (x13_1 < (l0.length : Int)) = true := decide_eq_true c3
   clear c3
   by_cases c4 : 0 ≤ x13_1; rotate_left
   ·rw [if_neg c4] at H
    exact absurd H (by simp)
   rw [if_pos c4] at H
   have c4b0 : decide (0 ≤ x13_1) = true := decide_eq_true c4
   clear c4
   by_cases c5 : x13_1 < (l0.length : Int); rotate_left
   ·rw [if_neg c5] at H
    exact absurd H (by simp)
   rw [if_pos c5] at H
   have c5b0 : decide (x13_1 < (l0.length : Int)) = true := decide_eq_true c5
   clear c5
   by_cases c6 : ((rd_T58 l0 x13_1).f0) < 1
   ·rw [if_pos c6] at H
    have c6b0 : decide (((rd_T58 l0 x13_1).f0) < 1) = true := decide_eq_true c6
    clear c6
    simp only [Option.some.injEq, Prod.mk.injEq] at H
    obtain ⟨rfl, rfl⟩ := H
    have p119 : 0 ≤ (x13_1 : Int) := od
    have q119 : x13_1 < (l0.length : Int) := od
    obtain ⟨aj, e119, ad, ae, af⟩ := at_T58 HR0.out x13_1 p119 q119
    cases e119
    replace ad := (HB.out.cell (World.block_lt_of_cell? w _ ad)).trans ad
    replace ae := (HB.out.cell (World.block_lt_of_cell? w _ ae)).trans ae
    replace af := (HB.out.cell (World.block_lt_of_cell? w _ af)).trans af
    replace p119 := eq_true p119
    replace q119 := eq_true q119
    go_wp2_with (first | ((with_reducible refine gate_dst (N := 6) rfl ?_); refine box_event ?hg (N := 6) ?hd (cs := #[.int .i64 0, .int .u64 0, .string (⟨#[]⟩ : ByteArray)]) (t := 58) ?hr ?_; (case hd => rfl); (case hg => rfl); (case hr => first | (go_simp; done) | (go_simp; rfl)); intro ab hg w7 hbox hb; have n0_ := Aside0.mk (Kd.R_below (by (with_reducible repeat (first | apply Kd.R_alloc | apply Kd.R_drewN | apply Kd.R_drew)); exact ag.out) hb); have n1_ := Aside0.mk (below_step bw hb); have n2_ := Aside0.mk (hbox); have n3_ := Aside0.mk ((g1 hg bw : w.heap.size ≤ ab)); have n4_ := Aside0.mk ((g1 hg bw : w.heap.size ≤ ab)); clear ag; clear HB; have ag := n0_; have HB := n1_; have ac := n2_; have ah := n3_; have ai := n4_; clear n0_ n1_ n2_ n3_ n4_; clear hb hbox hg; obtain ⟨hcz8_0, hcz8_1, hcz8_2, hfz8_0, hfz8_1, hfz8_2⟩ := bx3 ac.out))
    go_ret2
    exact ⟨er, bw⟩
   rw [if_neg c6] at H
   have c6b0 : decide (((rd_T58 l0 x13_1).f0) < 1) = false := decide_eq_false c6
   clear c6
   by_cases c9 : ((rd_T58 l0 x13_1).f0) > 4
   ·rw [if_pos c9] at H
    have c9b0 : decide (4 < ((rd_T58 l0 x13_1).f0)) = true := decide_eq_true c9
    clear c9
    simp only [Option.some.injEq, Prod.mk.injEq] at H
    obtain ⟨rfl, rfl⟩ := H
    have p119 : 0 ≤ (x13_1 : Int) := od
    have q119 : x13_1 < (l0.length : Int) := od
    obtain ⟨aj, e119, ad, ae, af⟩ := at_T58 HR0.out x13_1 p119 q119
    cases e119
    replace ad := (HB.out.cell (World.block_lt_of_cell? w _ ad)).trans ad
    replace ae := (HB.out.cell (World.block_lt_of_cell? w _ ae)).trans ae
    replace af := (HB.out.cell (World.block_lt_of_cell? w _ af)).trans af
    replace p119 := eq_true p119
    replace q119 := eq_true q119
    go_wp2_with (first | ((with_reducible refine gate_dst (N := 6) rfl ?_); refine box_event ?hg (N := 6) ?hd (cs := #[.int .i64 0, .int .u64 0, .string (⟨#[]⟩ : ByteArray)]) (t := 58) ?hr ?_; (case hd => rfl); (case hg => rfl); (case hr => first | (go_simp; done) | (go_simp; rfl)); intro ab hg w10 hbox hb; have n0_ := Aside0.mk (Kd.R_below (by (with_reducible repeat (first | apply Kd.R_alloc | apply Kd.R_drewN | apply Kd.R_drew)); exact ag.out) hb); have n1_ := Aside0.mk (below_step bw hb); have n2_ := Aside0.mk (hbox); have n3_ := Aside0.mk ((g1 hg bw : w.heap.size ≤ ab)); have n4_ := Aside0.mk ((g1 hg bw : w.heap.size ≤ ab)); clear ag; clear HB; have ag := n0_; have HB := n1_; have ac := n2_; have ah := n3_; have ai := n4_; clear n0_ n1_ n2_ n3_ n4_; clear hb hbox hg; obtain ⟨hcz11_0, hcz11_1, hcz11_2, hfz11_0, hfz11_1, hfz11_2⟩ := bx3 ac.out))
    go_ret2
    exact ⟨er, bw⟩
   rw [if_neg c9] at H
   have c9b0 : decide (4 < ((rd_T58 l0 x13_1).f0)) = false := decide_eq_false c9
   clear c9
   by_cases c12 : ((rd_T58 l0 x13_1).f0) = 4; rotate_left
   ·rw [if_neg c12] at H
    have c12b0 : (((rd_T58 l0 x13_1).f0) == 4) = false := beq_eq_false_iff_ne.mpr c12
    have c12b1 : (((rd_T58 l0 x13_1).f0) != 4) = true := bne_iff_ne.mpr c12
    by_cases c28 : 0 ≤ ((rd_T58 l0 x13_1).f0); rotate_left
    ·rw [if_neg c28] at H
     exact absurd H (by simp)
    rw [if_pos c28] at H
    have c28b0 : decide (0 ≤ ((rd_T58 l0 x13_1).f0)) = true := decide_eq_true c28
    clear c28
    by_cases c29 : ((rd_T58 l0 x13_1).f0) < 5; rotate_left
    ·rw [if_neg c29] at H
     exact absurd H (by simp)
    rw [if_pos c29] at H
    have c29b0 : decide (((rd_T58 l0 x13_1).f0) < 5) = true := decide_eq_true c29
    clear c29
    by_cases c30 : ((rd_T58 l0 x13_1).f2).toList = ([] : List UInt8); rotate_left
    ·rw [if_neg c30] at H
     have c30b0 : (((rd_T58 l0 x13_1).f2).toList == ([] : List UInt8)) = false := beq_eq_false_iff_ne.mpr c30
     have c30b1 : (((rd_T58 l0 x13_1).f2).toList != ([] : List UInt8)) = true := bne_iff_ne.mpr c30
     simp only [Option.some.injEq, Prod.mk.injEq] at H
     obtain ⟨rfl, rfl⟩ := H
     have p119 : 0 ≤ (x13_1 : Int) := od
     have q119 : x13_1 < (l0.length : Int) := od
     obtain ⟨aj, e119, ad, ae, af⟩ := at_T58 HR0.out x13_1 p119 q119
     cases e119
     replace ad := (HB.out.cell (World.block_lt_of_cell? w _ ad)).trans ad
     replace ae := (HB.out.cell (World.block_lt_of_cell? w _ ae)).trans ae
     replace af := (HB.out.cell (World.block_lt_of_cell? w _ af)).trans af
     replace p119 := eq_true p119
     replace q119 := eq_true q119
     go_wp2_with (first | ((with_reducible refine gate_dst (N := 6) rfl ?_); refine box_event ?hg (N := 6) ?hd (cs := #[.int .i64 0, .int .u64 0, .string (⟨#[]⟩ : ByteArray)]) (t := 58) ?hr ?_; (case hd => rfl); (case hg => rfl); (case hr => first | (go_simp; done) | (go_simp; rfl)); intro ab hg w52 hbox hb; have n0_ := Aside0.mk (Kd.R_below (by (with_reducible repeat (first | apply Kd.R_alloc | apply Kd.R_drewN | apply Kd.R_drew)); exact ag.out) hb); have n1_ := Aside0.mk (below_step bw hb); have n2_ := Aside0.mk (hbox); have n3_ := Aside0.mk ((g1 hg bw : w.heap.size ≤ ab)); have n4_ := Aside0.mk ((g1 hg bw : w.heap.size ≤ ab)); clear ag; clear HB; have ag := n0_; have HB := n1_; have ac := n2_; have ah := n3_; have ai := n4_; clear n0_ n1_ n2_ n3_ n4_; clear hb hbox hg; obtain ⟨hcz53_0, hcz53_1, hcz53_2, hfz53_0, hfz53_1, hfz53_2⟩ := bx3 ac.out; have p127 : 0 ≤ (((rd_T58 l0 x13_1).f0) : Int) := od; have q127 : ((rd_T58 l0 x13_1).f0) < (sizTabI.length : Int) := od; have ql127 : ((((rd_T58 l0 x13_1).f0) : Int) < (5 : Int)) = True := eq_true (od); obtain ⟨ak, e127, aa⟩ := Kd.at_int HRGsiz.out ((rd_T58 l0 x13_1).f0) p127 q127; obtain rfl : (⟨0, 0, none⟩ : Addr) = ak := (by injection e127); (first | simp only [add_plain] at aa | simp only [add_at] at aa | simp only [Addr.add, Nat.zero_add] at aa | skip); have hn127_0 : (⟨0, 0, none⟩ : Addr).block ≠ ab := Nat.ne_of_lt (Nat.lt_of_lt_of_le (by have := World.block_lt_of_cell? _ _ aa; first | rwa [add_block] at this | exact this) ah.out); have hn127_1 : (⟨0, 0, none⟩ : Addr).block ≠ ab := Nat.ne_of_lt (Nat.lt_of_lt_of_le (by have := World.block_lt_of_cell? _ _ aa; first | rwa [add_block] at this | exact this) ah.out); have hn127_2 : (⟨0, 0, none⟩ : Addr).block ≠ ab := Nat.ne_of_lt (Nat.lt_of_lt_of_le (by have := World.block_lt_of_cell? _ _ aa; first | rwa [add_block] at this | exact this) ah.out); replace aa := (HB.out.cell (World.block_lt_of_cell? w _ aa)).trans aa; replace aa := (cell_far (p := ⟨ab, 0, none⟩) (by first | (rw [add_block]; exact hn127_0) | (show (Addr.add _ _).block ≠ _; rw [add_block]; exact hn127_0) | exact hn127_0) (.int .i64 ((rd_T58 l0 x13_1).f0))).trans aa; replace aa := (cell_far (p := ⟨ab, 1, none⟩) (by first | (rw [add_block]; exact hn127_1) | (show (Addr.add _ _).block ≠ _; rw [add_block]; exact hn127_1) | exact hn127_1) (.int .u64 ((rd_T58 l0 x13_1).f1))).trans aa; replace aa := (cell_far (p := ⟨ab, 2, none⟩) (by first | (rw [add_block]; exact hn127_2) | (show (Addr.add _ _).block ≠ _; rw [add_block]; exact hn127_2) | exact hn127_2) (.string ((rd_T58 l0 x13_1).f2))).trans aa; clear hn127_0; clear hn127_1; clear hn127_2; replace p127 := eq_true p127; replace q127 := eq_true q127))
     go_ret2
     exact ⟨er, bw⟩
    rw [if_pos c30] at H
    have c30b0 : (((rd_T58 l0 x13_1).f2).toList == ([] : List UInt8)) = true := beq_iff_eq.mpr c30
    have c30b1 : (((rd_T58 l0 x13_1).f2).toList != ([] : List UInt8)) = false := bne_eq_false_iff_eq.mpr c30
    clear c30
    by_cases c31 : (rd sizTabI ((rd_T58 l0 x13_1).f0)) < 8; rotate_left
    ·rw [if_neg c31] at H
     have c31b0 : decide ((rd sizTabI ((rd_T58 l0 x13_1).f0)) < 8) = false := decide_eq_false c31
     clear c31
     replace H := Option.bind_eq_some_iff.mp H
     obtain ⟨t131, A450, H⟩ := H
     replace H : (codec_Encode.l0 k1 t131 l0 (l0.length : Int) (wrap64 (x13_1 + 1))) = some (r1, r2) := H
     have A45 := Aside0.mk A450
     clear A450
     have H' := Aside0.mk H
     clear H
     have p119 : 0 ≤ (x13_1 : Int) := od
     have q119 : x13_1 < (l0.length : Int) := od
     obtain ⟨aj, e119, ad, ae, af⟩ := at_T58 HR0.out x13_1 p119 q119
     cases e119
     replace ad := (HB.out.cell (World.block_lt_of_cell? w _ ad)).trans ad
     replace ae := (HB.out.cell (World.block_lt_of_cell? w _ ae)).trans ae
     replace af := (HB.out.cell (World.block_lt_of_cell? w _ af)).trans af
     replace p119 := eq_true p119
     replace q119 := eq_true q119
     go_wp2_with (first | ((with_reducible refine gate_dst (N := 6) rfl ?_); refine box_event ?hg (N := 6) ?hd (cs := #[.int .i64 0, .int .u64 0, .string (⟨#[]⟩ : ByteArray)]) (t := 58) ?hr ?_; (case hd => rfl); (case hg => rfl); (case hr => first | (go_simp; done) | (go_simp; rfl)); intro ab hg w46 hbox hb; have n0_ := Aside0.mk (Kd.R_below (by (with_reducible repeat (first | apply Kd.R_alloc | apply Kd.R_drewN | apply Kd.R_drew)); exact ag.out) hb); have n1_ := Aside0.mk (below_step bw hb); have n2_ := Aside0.mk (hbox); have n3_ := Aside0.mk ((g1 hg bw : w.heap.size ≤ ab)); have n4_ := Aside0.mk ((g1 hg bw : w.heap.size ≤ ab)); clear ag; clear HB; have ag := n0_; have HB := n1_; have ac := n2_; have ah := n3_; have ai := n4_; clear n0_ n1_ n2_ n3_ n4_; clear hb hbox hg; obtain ⟨hcz47_0, hcz47_1, hcz47_2, hfz47_0, hfz47_1, hfz47_2⟩ := bx3 ac.out) | ((with_reducible refine gate_store (t := 58) (p := 6) rfl ?_); refine store_event (t := 58) (p := 6) (v := ?vo_w48) (w1 := (((w46.setCell ⟨ab, 0, none⟩ (.int .i64 ((rd_T58 l0 x13_1).f0))).setCell ⟨ab, 1, none⟩ (.int .u64 ((rd_T58 l0 x13_1).f1))).setCell ⟨ab, 2, none⟩ (.string ((rd_T58 l0 x13_1).f2)))) ?hg ?ho ?hn ?hr ?_; (case ho => rfl); (case hg => rfl); (case hn => rfl); (case hr => first | (go_simp; done) | (go_simp; rfl)); intro w48 hw; have n0_ : Aside0 (Kd.R (Kd.int .u8) 5 w48 w.heap.size (fun _ => True) u4 x4_1) := ⟨(by rw [hw]; exact (by (with_reducible repeat (first | apply Kd.R_alloc | apply Kd.R_drewN | apply Kd.R_drew)); exact Kd.R_mono (Kd.R_far (p := ⟨ab, 2, none⟩) (Kd.R_far (p := ⟨ab, 1, none⟩) (Kd.R_far (p := ⟨ab, 0, none⟩) (Kd.R_types ag.out ac.out (by decide)) (fun _ hk => hk.2) (.int .i64 ((rd_T58 l0 x13_1).f0))) (fun _ hk => hk.2) (.int .u64 ((rd_T58 l0 x13_1).f1))) (fun _ hk => hk.2) (.string ((rd_T58 l0 x13_1).f2))) (fun _ hk => trivial)))⟩; have n1_ : Aside0 (w48.heap[ab]? = some (.cells #[.int .i64 ((rd_T58 l0 x13_1).f0), .int .u64 ((rd_T58 l0 x13_1).f1), .string ((rd_T58 l0 x13_1).f2)] 58 (0, 0))) := ⟨(by rw [hw]; exact (by (with_reducible repeat (first | refine blk_drewN ?_ _ | refine blk_drew ?_ | refine blk_alloc ?_ _)); refine blk_put (cs := #[.int .i64 ((rd_T58 l0 x13_1).f0), .int .u64 ((rd_T58 l0 x13_1).f1), .string (⟨#[]⟩ : ByteArray)]) ?_ 2 _ rfl; (with_reducible repeat (first | refine blk_drewN ?_ _ | refine blk_drew ?_ | refine blk_alloc ?_ _)); refine blk_put (cs := #[.int .i64 ((rd_T58 l0 x13_1).f0), .int .u64 0, .string (⟨#[]⟩ : ByteArray)]) ?_ 1 _ rfl; (with_reducible repeat (first | refine blk_drewN ?_ _ | refine blk_drew ?_ | refine blk_alloc ?_ _)); refine blk_put (cs := #[.int .i64 0, .int .u64 0, .string (⟨#[]⟩ : ByteArray)]) ?_ 0 _ rfl; (with_reducible repeat (first | refine blk_drewN ?_ _ | refine blk_drew ?_ | refine blk_alloc ?_ _)); exact ac.out))⟩; have n2_ : Aside0 (Below w.heap.size w w48) := ⟨(by rw [hw]; exact bw)⟩; clear hw; clear ag; clear ac; clear HB; have ag := n0_; have ac := n1_; have HB := n2_; clear n0_ n1_ n2_; obtain ⟨hcz49_0, hcz49_1, hcz49_2, hfz49_0, hfz49_1, hfz49_2⟩ := bx3 ac.out; have p127 : 0 ≤ (((rd_T58 l0 x13_1).f0) : Int) := od; have q127 : ((rd_T58 l0 x13_1).f0) < (sizTabI.length : Int) := od; have ql127 : ((((rd_T58 l0 x13_1).f0) : Int) < (5 : Int)) = True := eq_true (od); obtain ⟨ak, e127, aa⟩ := Kd.at_int HRGsiz.out ((rd_T58 l0 x13_1).f0) p127 q127; obtain rfl : (⟨0, 0, none⟩ : Addr) = ak := (by injection e127); (first | simp only [add_plain] at aa | simp only [add_at] at aa | simp only [Addr.add, Nat.zero_add] at aa | skip); replace aa := (HB.out.cell (World.block_lt_of_cell? w _ aa)).trans aa; replace p127 := eq_true p127; replace q127 := eq_true q127; obtain ⟨ar, au, eo50⟩ := Kd.R_slice ag.out; subst eo50) | ((with_reducible refine gate_callee (f := 26) rfl ?_); refine goesL_ (some 67) rfl rfl Tryd.func26 (by kernel_rfl) rfl #[.slice ar x4_1.length au, .int .u64 ((rd_T58 l0 x13_1).f1), .int .i64 (rd sizTabI ((rd_T58 l0 x13_1).f0))] rfl am ?_; (with_reducible refine (codec_put.calls k1 (fun k_ => some k_ = (.slice ar x4_1.length au : Value).ownBlock) (.slice ar x4_1.length au) x4_1 ((rd_T58 l0 x13_1).f1) (rd sizTabI ((rd_T58 l0 x13_1).f0)) t131 w _ ?side1 ?side2 A45.out).mono ?_); (case side1 => repeat (first | (with_reducible first | exact HB.out | apply below_alloc | apply pw_below_drewN | apply below_drew1 | refine below_set ?_ ai.out) | exact HB.out)); (case side2 => exact Kd.R_tight rfl ag.out); rintro e w51 ⟨v132, rfl, ho0, hb, hkp⟩; refine ⟨_, rfl, ?_⟩; have n0_ := Aside0.mk (blk_kept (bk ac.out) hkp (fun hs_ => (fun e_ => (Kd.R_ne ag.out ac.out (by decide)) e_) hs_)); have n1_ := Aside0.mk (Kd.R_mono (ok' := fun k_ => True) ho0 (fun k_ hk_ => trivial)); have n2_ := Aside0.mk (hb); clear ac; clear HB; clear ag; have ac := n0_; have HO133 := n1_; have HB := n2_; clear n0_ n1_ n2_; (try clear hb); (try clear hkp); (try clear ho0)))
     go_roundg k1
     case measure => have := HK1.out; omega
     case rel => exact ⟨(t131), (wrap64 (x13_1 + 1)), (by first | rfl | (simp; done) | (simp [*]; done)), H', ⟨by have := HK1.out; omega⟩, ⟨by (with_reducible repeat (first | apply Kd.R_alloc | apply Kd.R_drewN | apply Kd.R_drew)); exact HO133.out⟩, ⟨bw⟩⟩
    rw [if_pos c31] at H
    have c31b0 : decide ((rd sizTabI ((rd_T58 l0 x13_1).f0)) < 8) = true := decide_eq_true c31
    clear c31
    obtain ⟨ji32, hji32⟩ : ∃ j_ : Int, (wrap64 (8 * (rd sizTabI ((rd_T58 l0 x13_1).f0)))) = j_ := ⟨_, rfl⟩
    replace H : (if 0 ≤ (ji32) then (if (shr .u64 ((rd_T58 l0 x13_1).f1) (ji32)) > 0 then (some ((⟨#[]⟩ : ByteArray), 1)) else ((codec_put.f k1 x4_1 ((rd_T58 l0 x13_1).f1) (rd sizTabI ((rd_T58 l0 x13_1).f0))).bind fun t128 => (codec_Encode.l0 k1 t128 l0 (l0.length : Int) (wrap64 (x13_1 + 1))))) else (none)) = some (r1, r2) := by first | (rw [hji32] at H; exact H) | (simp only [hji32] at H ⊢; exact H)
    have hji32w : (IntKind.i64.wrap (8 * (rd sizTabI ((rd_T58 l0 x13_1).f0)))) = ji32 := (i64_w _).trans hji32
    by_cases c33 : 0 ≤ (ji32); rotate_left
    ·rw [if_neg c33] at H
     exact absurd H (by simp)
    rw [if_pos c33] at H
    have c33b0 := eq_true c33
    have c33b1 : decide (0 ≤ (ji32)) = true := decide_eq_true c33
    clear c33
    obtain ⟨ji34, hji34⟩ : ∃ j_ : Int, (shr .u64 ((rd_T58 l0 x13_1).f1) (ji32)) = j_ := ⟨_, rfl⟩
    replace H : (if (ji34) > 0 then (some ((⟨#[]⟩ : ByteArray), 1)) else ((codec_put.f k1 x4_1 ((rd_T58 l0 x13_1).f1) (rd sizTabI ((rd_T58 l0 x13_1).f0))).bind fun t128 => (codec_Encode.l0 k1 t128 l0 (l0.length : Int) (wrap64 (x13_1 + 1))))) = some (r1, r2) := by first | (rw [hji34] at H; exact H) | (simp only [hji34] at H ⊢; exact H)
    have hji34_ : (((rd_T58 l0 x13_1).f1) / 2 ^ min (ji32).toNat 64) = ji34 := hji34
    have hji34z : (ji32) ≤ 64 → (((rd_T58 l0 x13_1).f1) / 2 ^ (ji32).toNat) = ji34 := shr_small hji34
    by_cases c35 : (ji34) > 0
    ·rw [if_pos c35] at H
     have c35b0 : decide (0 < (ji34)) = true := decide_eq_true c35
     clear c35
     simp only [Option.some.injEq, Prod.mk.injEq] at H
     obtain ⟨rfl, rfl⟩ := H
     have p119 : 0 ≤ (x13_1 : Int) := od
     have q119 : x13_1 < (l0.length : Int) := od
     obtain ⟨aj, e119, ad, ae, af⟩ := at_T58 HR0.out x13_1 p119 q119
     cases e119
     replace ad := (HB.out.cell (World.block_lt_of_cell? w _ ad)).trans ad
     replace ae := (HB.out.cell (World.block_lt_of_cell? w _ ae)).trans ae
     replace af := (HB.out.cell (World.block_lt_of_cell? w _ af)).trans af
     replace p119 := eq_true p119
     replace q119 := eq_true q119
     go_wp2_with (first | ((with_reducible refine gate_dst (N := 6) rfl ?_); refine box_event ?hg (N := 6) ?hd (cs := #[.int .i64 0, .int .u64 0, .string (⟨#[]⟩ : ByteArray)]) (t := 58) ?hr ?_; (case hd => rfl); (case hg => rfl); (case hr => first | (go_simp; done) | (go_simp; rfl)); intro ab hg w36 hbox hb; have n0_ := Aside0.mk (Kd.R_below (by (with_reducible repeat (first | apply Kd.R_alloc | apply Kd.R_drewN | apply Kd.R_drew)); exact ag.out) hb); have n1_ := Aside0.mk (below_step bw hb); have n2_ := Aside0.mk (hbox); have n3_ := Aside0.mk ((g1 hg bw : w.heap.size ≤ ab)); have n4_ := Aside0.mk ((g1 hg bw : w.heap.size ≤ ab)); clear ag; clear HB; have ag := n0_; have HB := n1_; have ac := n2_; have ah := n3_; have ai := n4_; clear n0_ n1_ n2_ n3_ n4_; clear hb hbox hg; obtain ⟨hcz37_0, hcz37_1, hcz37_2, hfz37_0, hfz37_1, hfz37_2⟩ := bx3 ac.out; have p127 : 0 ≤ (((rd_T58 l0 x13_1).f0) : Int) := od; have q127 : ((rd_T58 l0 x13_1).f0) < (sizTabI.length : Int) := od; have ql127 : ((((rd_T58 l0 x13_1).f0) : Int) < (5 : Int)) = True := eq_true (od); obtain ⟨ak, e127, aa⟩ := Kd.at_int HRGsiz.out ((rd_T58 l0 x13_1).f0) p127 q127; obtain rfl : (⟨0, 0, none⟩ : Addr) = ak := (by injection e127); (first | simp only [add_plain] at aa | simp only [add_at] at aa | simp only [Addr.add, Nat.zero_add] at aa | skip); have hn127_0 : (⟨0, 0, none⟩ : Addr).block ≠ ab := Nat.ne_of_lt (Nat.lt_of_lt_of_le (by have := World.block_lt_of_cell? _ _ aa; first | rwa [add_block] at this | exact this) ah.out); have hn127_1 : (⟨0, 0, none⟩ : Addr).block ≠ ab := Nat.ne_of_lt (Nat.lt_of_lt_of_le (by have := World.block_lt_of_cell? _ _ aa; first | rwa [add_block] at this | exact this) ah.out); have hn127_2 : (⟨0, 0, none⟩ : Addr).block ≠ ab := Nat.ne_of_lt (Nat.lt_of_lt_of_le (by have := World.block_lt_of_cell? _ _ aa; first | rwa [add_block] at this | exact this) ah.out); replace aa := (HB.out.cell (World.block_lt_of_cell? w _ aa)).trans aa; replace aa := (cell_far (p := ⟨ab, 0, none⟩) (by first | (rw [add_block]; exact hn127_0) | (show (Addr.add _ _).block ≠ _; rw [add_block]; exact hn127_0) | exact hn127_0) (.int .i64 ((rd_T58 l0 x13_1).f0))).trans aa; replace aa := (cell_far (p := ⟨ab, 1, none⟩) (by first | (rw [add_block]; exact hn127_1) | (show (Addr.add _ _).block ≠ _; rw [add_block]; exact hn127_1) | exact hn127_1) (.int .u64 ((rd_T58 l0 x13_1).f1))).trans aa; replace aa := (cell_far (p := ⟨ab, 2, none⟩) (by first | (rw [add_block]; exact hn127_2) | (show (Addr.add _ _).block ≠ _; rw [add_block]; exact hn127_2) | exact hn127_2) (.string ((rd_T58 l0 x13_1).f2))).trans aa; clear hn127_0; clear hn127_1; clear hn127_2; replace p127 := eq_true p127; replace q127 := eq_true q127))
     go_ret2
     exact ⟨by first | rfl | (simp [errW_none, errW_some] <;> rfl) | (simp only [← hji32, ← hji34]; first | rfl | (simp [errW_none, errW_some] <;> rfl)) | (simp [*, errW_none, errW_some] <;> rfl), bw⟩
    rw [if_neg c35] at H
    have c35b0 : decide (0 < (ji34)) = false := decide_eq_false c35
    clear c35
    replace H := Option.bind_eq_some_iff.mp H
    obtain ⟨t128, A380, H⟩ := H
    replace H : (codec_Encode.l0 k1 t128 l0 (l0.length : Int) (wrap64 (x13_1 + 1))) = some (r1, r2) := H
    have A38 := Aside0.mk A380
    clear A380
    have H' := Aside0.mk H
    clear H
    have p119 : 0 ≤ (x13_1 : Int) := od
    have q119 : x13_1 < (l0.length : Int) := od
    obtain ⟨aj, e119, ad, ae, af⟩ := at_T58 HR0.out x13_1 p119 q119
    cases e119
    replace ad := (HB.out.cell (World.block_lt_of_cell? w _ ad)).trans ad
    replace ae := (HB.out.cell (World.block_lt_of_cell? w _ ae)).trans ae
    replace af := (HB.out.cell (World.block_lt_of_cell? w _ af)).trans af
    replace p119 := eq_true p119
    replace q119 := eq_true q119
    go_wp2_with (first | ((with_reducible refine gate_dst (N := 6) rfl ?_); refine box_event ?hg (N := 6) ?hd (cs := #[.int .i64 0, .int .u64 0, .string (⟨#[]⟩ : ByteArray)]) (t := 58) ?hr ?_; (case hd => rfl); (case hg => rfl); (case hr => first | (go_simp; done) | (go_simp; rfl)); intro ab hg w39 hbox hb; have n0_ := Aside0.mk (Kd.R_below (by (with_reducible repeat (first | apply Kd.R_alloc | apply Kd.R_drewN | apply Kd.R_drew)); exact ag.out) hb); have n1_ := Aside0.mk (below_step bw hb); have n2_ := Aside0.mk (hbox); have n3_ := Aside0.mk ((g1 hg bw : w.heap.size ≤ ab)); have n4_ := Aside0.mk ((g1 hg bw : w.heap.size ≤ ab)); clear ag; clear HB; have ag := n0_; have HB := n1_; have ac := n2_; have ah := n3_; have ai := n4_; clear n0_ n1_ n2_ n3_ n4_; clear hb hbox hg; obtain ⟨hcz40_0, hcz40_1, hcz40_2, hfz40_0, hfz40_1, hfz40_2⟩ := bx3 ac.out) | ((with_reducible refine gate_store (t := 58) (p := 6) rfl ?_); refine store_event (t := 58) (p := 6) (v := ?vo_w41) (w1 := (((w39.setCell ⟨ab, 0, none⟩ (.int .i64 ((rd_T58 l0 x13_1).f0))).setCell ⟨ab, 1, none⟩ (.int .u64 ((rd_T58 l0 x13_1).f1))).setCell ⟨ab, 2, none⟩ (.string ((rd_T58 l0 x13_1).f2)))) ?hg ?ho ?hn ?hr ?_; (case ho => rfl); (case hg => rfl); (case hn => rfl); (case hr => first | (go_simp; done) | (go_simp; rfl)); intro w41 hw; have n0_ : Aside0 (Kd.R (Kd.int .u8) 5 w41 w.heap.size (fun _ => True) u4 x4_1) := ⟨(by rw [hw]; exact (by (with_reducible repeat (first | apply Kd.R_alloc | apply Kd.R_drewN | apply Kd.R_drew)); exact Kd.R_mono (Kd.R_far (p := ⟨ab, 2, none⟩) (Kd.R_far (p := ⟨ab, 1, none⟩) (Kd.R_far (p := ⟨ab, 0, none⟩) (Kd.R_types ag.out ac.out (by decide)) (fun _ hk => hk.2) (.int .i64 ((rd_T58 l0 x13_1).f0))) (fun _ hk => hk.2) (.int .u64 ((rd_T58 l0 x13_1).f1))) (fun _ hk => hk.2) (.string ((rd_T58 l0 x13_1).f2))) (fun _ hk => trivial)))⟩; have n1_ : Aside0 (w41.heap[ab]? = some (.cells #[.int .i64 ((rd_T58 l0 x13_1).f0), .int .u64 ((rd_T58 l0 x13_1).f1), .string ((rd_T58 l0 x13_1).f2)] 58 (0, 0))) := ⟨(by rw [hw]; exact (by (with_reducible repeat (first | refine blk_drewN ?_ _ | refine blk_drew ?_ | refine blk_alloc ?_ _)); refine blk_put (cs := #[.int .i64 ((rd_T58 l0 x13_1).f0), .int .u64 ((rd_T58 l0 x13_1).f1), .string (⟨#[]⟩ : ByteArray)]) ?_ 2 _ rfl; (with_reducible repeat (first | refine blk_drewN ?_ _ | refine blk_drew ?_ | refine blk_alloc ?_ _)); refine blk_put (cs := #[.int .i64 ((rd_T58 l0 x13_1).f0), .int .u64 0, .string (⟨#[]⟩ : ByteArray)]) ?_ 1 _ rfl; (with_reducible repeat (first | refine blk_drewN ?_ _ | refine blk_drew ?_ | refine blk_alloc ?_ _)); refine blk_put (cs := #[.int .i64 0, .int .u64 0, .string (⟨#[]⟩ : ByteArray)]) ?_ 0 _ rfl; (with_reducible repeat (first | refine blk_drewN ?_ _ | refine blk_drew ?_ | refine blk_alloc ?_ _)); exact ac.out))⟩; have n2_ : Aside0 (Below w.heap.size w w41) := ⟨(by rw [hw]; exact bw)⟩; clear hw; clear ag; clear ac; clear HB; have ag := n0_; have ac := n1_; have HB := n2_; clear n0_ n1_ n2_; obtain ⟨hcz42_0, hcz42_1, hcz42_2, hfz42_0, hfz42_1, hfz42_2⟩ := bx3 ac.out; have p127 : 0 ≤ (((rd_T58 l0 x13_1).f0) : Int) := od; have q127 : ((rd_T58 l0 x13_1).f0) < (sizTabI.length : Int) := od; have ql127 : ((((rd_T58 l0 x13_1).f0) : Int) < (5 : Int)) = True := eq_true (od); obtain ⟨ak, e127, aa⟩ := Kd.at_int HRGsiz.out ((rd_T58 l0 x13_1).f0) p127 q127; obtain rfl : (⟨0, 0, none⟩ : Addr) = ak := (by injection e127); (first | simp only [add_plain] at aa | simp only [add_at] at aa | simp only [Addr.add, Nat.zero_add] at aa | skip); replace aa := (HB.out.cell (World.block_lt_of_cell? w _ aa)).trans aa; replace p127 := eq_true p127; replace q127 := eq_true q127; obtain ⟨ap, aq, eo43⟩ := Kd.R_slice ag.out; subst eo43) | ((with_reducible refine gate_callee (f := 26) rfl ?_); refine goesL_ (some 67) rfl rfl Tryd.func26 (by kernel_rfl) rfl #[.slice ap x4_1.length aq, .int .u64 ((rd_T58 l0 x13_1).f1), .int .i64 (rd sizTabI ((rd_T58 l0 x13_1).f0))] rfl am ?_; (with_reducible refine (codec_put.calls k1 (fun k_ => some k_ = (.slice ap x4_1.length aq : Value).ownBlock) (.slice ap x4_1.length aq) x4_1 ((rd_T58 l0 x13_1).f1) (rd sizTabI ((rd_T58 l0 x13_1).f0)) t128 w _ ?side1 ?side2 A38.out).mono ?_); (case side1 => repeat (first | (with_reducible first | exact HB.out | apply below_alloc | apply pw_below_drewN | apply below_drew1 | refine below_set ?_ ai.out) | exact HB.out)); (case side2 => exact Kd.R_tight rfl ag.out); rintro e w44 ⟨v129, rfl, ho0, hb, hkp⟩; refine ⟨_, rfl, ?_⟩; have n0_ := Aside0.mk (blk_kept (bk ac.out) hkp (fun hs_ => (fun e_ => (Kd.R_ne ag.out ac.out (by decide)) e_) hs_)); have n1_ := Aside0.mk (Kd.R_mono (ok' := fun k_ => True) ho0 (fun k_ hk_ => trivial)); have n2_ := Aside0.mk (hb); clear ac; clear HB; clear ag; have ac := n0_; have HO130 := n1_; have HB := n2_; clear n0_ n1_ n2_; (try clear hb); (try clear hkp); (try clear ho0)))
    go_roundg k1
    case measure => have := HK1.out; omega
    case rel => (try rw [hji32]); (try rw [hji34]); exact ⟨(t128), (wrap64 (x13_1 + 1)), (by first | rfl | (simp; done) | (simp [*]; done)), H', ⟨by have := HK1.out; omega⟩, ⟨by (with_reducible repeat (first | apply Kd.R_alloc | apply Kd.R_drewN | apply Kd.R_drew)); exact HO130.out⟩, ⟨bw⟩⟩
   rw [if_pos c12] at H
   have c12b0 : (((rd_T58 l0 x13_1).f0) == 4) = true := beq_iff_eq.mpr c12
   have c12b1 : (((rd_T58 l0 x13_1).f0) != 4) = false := bne_eq_false_iff_eq.mpr c12
   clear c12
   by_cases c13 : ((rd_T58 l0 x13_1).f1) = 0; rotate_left
   ·rw [if_neg c13] at H
    have c13b0 : (((rd_T58 l0 x13_1).f1) == 0) = false := beq_eq_false_iff_ne.mpr c13
    have c13b1 : (((rd_T58 l0 x13_1).f1) != 0) = true := bne_iff_ne.mpr c13
    simp only [Option.some.injEq, Prod.mk.injEq] at H
    obtain ⟨rfl, rfl⟩ := H
    have p119 : 0 ≤ (x13_1 : Int) := od
    have q119 : x13_1 < (l0.length : Int) := od
    obtain ⟨aj, e119, ad, ae, af⟩ := at_T58 HR0.out x13_1 p119 q119
    cases e119
    replace ad := (HB.out.cell (World.block_lt_of_cell? w _ ad)).trans ad
    replace ae := (HB.out.cell (World.block_lt_of_cell? w _ ae)).trans ae
    replace af := (HB.out.cell (World.block_lt_of_cell? w _ af)).trans af
    replace p119 := eq_true p119
    replace q119 := eq_true q119
    go_wp2_with (first | ((with_reducible refine gate_dst (N := 6) rfl ?_); refine box_event ?hg (N := 6) ?hd (cs := #[.int .i64 0, .int .u64 0, .string (⟨#[]⟩ : ByteArray)]) (t := 58) ?hr ?_; (case hd => rfl); (case hg => rfl); (case hr => first | (go_simp; done) | (go_simp; rfl)); intro ab hg w26 hbox hb; have n0_ := Aside0.mk (Kd.R_below (by (with_reducible repeat (first | apply Kd.R_alloc | apply Kd.R_drewN | apply Kd.R_drew)); exact ag.out) hb); have n1_ := Aside0.mk (below_step bw hb); have n2_ := Aside0.mk (hbox); have n3_ := Aside0.mk ((g1 hg bw : w.heap.size ≤ ab)); have n4_ := Aside0.mk ((g1 hg bw : w.heap.size ≤ ab)); clear ag; clear HB; have ag := n0_; have HB := n1_; have ac := n2_; have ah := n3_; have ai := n4_; clear n0_ n1_ n2_ n3_ n4_; clear hb hbox hg; obtain ⟨hcz27_0, hcz27_1, hcz27_2, hfz27_0, hfz27_1, hfz27_2⟩ := bx3 ac.out))
    go_ret2
    exact ⟨er, bw⟩
   rw [if_pos c13] at H
   have c13b0 : (((rd_T58 l0 x13_1).f1) == 0) = true := beq_iff_eq.mpr c13
   have c13b1 : (((rd_T58 l0 x13_1).f1) != 0) = false := bne_eq_false_iff_eq.mpr c13
   clear c13
   by_cases c14 : (((rd_T58 l0 x13_1).f2).size : Int) > 100000
   ·rw [if_pos c14] at H
    have c14b0 : decide (100000 < (((rd_T58 l0 x13_1).f2).size : Int)) = true := decide_eq_true c14
    have c14b1 : decide (100000 < ((rd_T58 l0 x13_1).f2).size) = true := decide_eq_true (by omega)
    clear c14
    simp only [Option.some.injEq, Prod.mk.injEq] at H
    obtain ⟨rfl, rfl⟩ := H
    have p119 : 0 ≤ (x13_1 : Int) := od
    have q119 : x13_1 < (l0.length : Int) := od
    obtain ⟨aj, e119, ad, ae, af⟩ := at_T58 HR0.out x13_1 p119 q119
    cases e119
    replace ad := (HB.out.cell (World.block_lt_of_cell? w _ ad)).trans ad
    replace ae := (HB.out.cell (World.block_lt_of_cell? w _ ae)).trans ae
    replace af := (HB.out.cell (World.block_lt_of_cell? w _ af)).trans af
    replace p119 := eq_true p119
    replace q119 := eq_true q119
    go_wp2_with (first | ((with_reducible refine gate_dst (N := 6) rfl ?_); refine box_event ?hg (N := 6) ?hd (cs := #[.int .i64 0, .int .u64 0, .string (⟨#[]⟩ : ByteArray)]) (t := 58) ?hr ?_; (case hd => rfl); (case hg => rfl); (case hr => first | (go_simp; done) | (go_simp; rfl)); intro ab hg w15 hbox hb; have n0_ := Aside0.mk (Kd.R_below (by (with_reducible repeat (first | apply Kd.R_alloc | apply Kd.R_drewN | apply Kd.R_drew)); exact ag.out) hb); have n1_ := Aside0.mk (below_step bw hb); have n2_ := Aside0.mk (hbox); have n3_ := Aside0.mk ((g1 hg bw : w.heap.size ≤ ab)); have n4_ := Aside0.mk ((g1 hg bw : w.heap.size ≤ ab)); clear ag; clear HB; have ag := n0_; have HB := n1_; have ac := n2_; have ah := n3_; have ai := n4_; clear n0_ n1_ n2_ n3_ n4_; clear hb hbox hg; obtain ⟨hcz16_0, hcz16_1, hcz16_2, hfz16_0, hfz16_1, hfz16_2⟩ := bx3 ac.out))
    go_ret2
    exact ⟨er, bw⟩
   rw [if_neg c14] at H
   have c14b0 : decide (100000 < (((rd_T58 l0 x13_1).f2).size : Int)) = false := decide_eq_false c14
   have c14b1 : decide (100000 < ((rd_T58 l0 x13_1).f2).size) = false := decide_eq_false (by omega)
   clear c14
   replace H := Option.bind_eq_some_iff.mp H
   obtain ⟨t121, A170, H⟩ := H
   replace H : (if t121.length + ((rd_T58 l0 x13_1).f2).size < 140737488355328 then (codec_Encode.l0 k1 (t121 ++ bytesOf ((rd_T58 l0 x13_1).f2)) l0 (l0.length : Int) (wrap64 (x13_1 + 1))) else (none)) = some (r1, r2) := H
   have A17 := Aside0.mk A170
   clear A170
   by_cases c18 : t121.length + ((rd_T58 l0 x13_1).f2).size < 140737488355328; rotate_left
   ·rw [if_neg c18] at H
    exact absurd H (by simp)
   rw [if_pos c18] at H
   have LMc18 := Aside0.mk c18
   clear c18
   obtain ⟨y124, hy124⟩ : ∃ y_ : List Int, y_ = (t121 ++ bytesOf ((rd_T58 l0 x13_1).f2)) := ⟨_, rfl⟩
   replace H : (codec_Encode.l0 k1 y124 l0 (l0.length : Int) (wrap64 (x13_1 + 1))) = some (r1, r2) := by first | (rw [hy124]; with_reducible exact H) | (have H2_ := (Option.bind_some _ _).symm.trans H; rw [hy124]; with_reducible exact H2_) | (have H2_ := (Option.bind_some _ _).symm.trans H; with_reducible exact H2_) | with_reducible exact H | (rw [hy124]; exact H) | exact H
   have Ny124 := Aside0.mk hy124
   clear hy124
   have H' := Aside0.mk H
   clear H
   have p119 : 0 ≤ (x13_1 : Int) := od
   have q119 : x13_1 < (l0.length : Int) := od
   obtain ⟨aj, e119, ad, ae, af⟩ := at_T58 HR0.out x13_1 p119 q119
   cases e119
   replace ad := (HB.out.cell (World.block_lt_of_cell? w _ ad)).trans ad
   replace ae := (HB.out.cell (World.block_lt_of_cell? w _ ae)).trans ae
   replace af := (HB.out.cell (World.block_lt_of_cell? w _ af)).trans af
   replace p119 := eq_true p119
   replace q119 := eq_true q119
   try go_wp2_with (first | ((with_reducible refine gate_dst (N := 6) rfl ?_); refine box_event ?hg (N := 6) ?hd (cs := #[.int .i64 0, .int .u64 0, .string (⟨#[]⟩ : ByteArray)]) (t := 58) ?hr ?_; (case hd => rfl); (case hg => rfl); (case hr => first | (go_simp; done) | (go_simp; rfl)); intro ab hg w19 hbox hb; have n0_ := Aside0.mk (Kd.R_below (by (with_reducible repeat (first | apply Kd.R_alloc | apply Kd.R_drewN | apply Kd.R_drew)); exact ag.out) hb); have n1_ := Aside0.mk (below_step bw hb); have n2_ := Aside0.mk (hbox); have n3_ := Aside0.mk ((g1 hg bw : w.heap.size ≤ ab)); have n4_ := Aside0.mk ((g1 hg bw : w.heap.size ≤ ab)); clear ag; clear HB; have ag := n0_; have HB := n1_; have ac := n2_; have ah := n3_; have ai := n4_; clear n0_ n1_ n2_ n3_ n4_; clear hb hbox hg; obtain ⟨hcz20_0, hcz20_1, hcz20_2, hfz20_0, hfz20_1, hfz20_2⟩ := bx3 ac.out))
   have n0_ : Aside0 (Kd.R (Kd.int .u8) 5 (((w19.setCell ⟨ab, 0, none⟩ (.int .i64 ((rd_T58 l0 x13_1).f0))).setCell ⟨ab, 1, none⟩ (.int .u64 ((rd_T58 l0 x13_1).f1))).setCell ⟨ab, 2, none⟩ (.string ((rd_T58 l0 x13_1).f2))) w.heap.size (fun _ => True) u4 x4_1) := ⟨by (with_reducible repeat (first | apply Kd.R_alloc | apply Kd.R_drewN | apply Kd.R_drew)); exact Kd.R_mono (Kd.R_far (p := ⟨ab, 2, none⟩) (Kd.R_far (p := ⟨ab, 1, none⟩) (Kd.R_far (p := ⟨ab, 0, none⟩) (Kd.R_types ag.out ac.out (by decide)) (fun _ hk => hk.2) (.int .i64 ((rd_T58 l0 x13_1).f0))) (fun _ hk => hk.2) (.int .u64 ((rd_T58 l0 x13_1).f1))) (fun _ hk => hk.2) (.string ((rd_T58 l0 x13_1).f2))) (fun _ hk => trivial)⟩
   have n1_ : Aside0 ((((w19.setCell ⟨ab, 0, none⟩ (.int .i64 ((rd_T58 l0 x13_1).f0))).setCell ⟨ab, 1, none⟩ (.int .u64 ((rd_T58 l0 x13_1).f1))).setCell ⟨ab, 2, none⟩ (.string ((rd_T58 l0 x13_1).f2))).heap[ab]? = some (.cells #[.int .i64 ((rd_T58 l0 x13_1).f0), .int .u64 ((rd_T58 l0 x13_1).f1), .string ((rd_T58 l0 x13_1).f2)] 58 (0, 0))) := ⟨by (with_reducible repeat (first | refine blk_drewN ?_ _ | refine blk_drew ?_ | refine blk_alloc ?_ _)); refine blk_put (cs := #[.int .i64 ((rd_T58 l0 x13_1).f0), .int .u64 ((rd_T58 l0 x13_1).f1), .string (⟨#[]⟩ : ByteArray)]) ?_ 2 _ rfl; (with_reducible repeat (first | refine blk_drewN ?_ _ | refine blk_drew ?_ | refine blk_alloc ?_ _)); refine blk_put (cs := #[.int .i64 ((rd_T58 l0 x13_1).f0), .int .u64 0, .string (⟨#[]⟩ : ByteArray)]) ?_ 1 _ rfl; (with_reducible repeat (first | refine blk_drewN ?_ _ | refine blk_drew ?_ | refine blk_alloc ?_ _)); refine blk_put (cs := #[.int .i64 0, .int .u64 0, .string (⟨#[]⟩ : ByteArray)]) ?_ 0 _ rfl; (with_reducible repeat (first | refine blk_drewN ?_ _ | refine blk_drew ?_ | refine blk_alloc ?_ _)); exact ac.out⟩
   have n2_ : Aside0 (Below w.heap.size w (((w19.setCell ⟨ab, 0, none⟩ (.int .i64 ((rd_T58 l0 x13_1).f0))).setCell ⟨ab, 1, none⟩ (.int .u64 ((rd_T58 l0 x13_1).f1))).setCell ⟨ab, 2, none⟩ (.string ((rd_T58 l0 x13_1).f2)))) := ⟨bw⟩
   (try clear ag)
   (try clear ac)
   (try clear HB)
   generalize (((w19.setCell ⟨ab, 0, none⟩ (.int .i64 ((rd_T58 l0 x13_1).f0))).setCell ⟨ab, 1, none⟩ (.int .u64 ((rd_T58 l0 x13_1).f1))).setCell ⟨ab, 2, none⟩ (.string ((rd_T58 l0 x13_1).f2))) = w21 at n0_ n1_ n2_ ⊢
   have ag := n0_
   have ac := n1_
   have HB := n2_
   clear n0_ n1_ n2_
   have n0_ := Aside0.mk (Kd.R_drew ag.out)
   have n1_ := Aside0.mk (blk_drew ac.out)
   have n2_ := Aside0.mk (below_drew1 HB.out)
   clear ag
   clear ac
   clear HB
   have ag := n0_
   have ac := n1_
   have HB := n2_
   clear n0_ n1_ n2_
   obtain ⟨an, ao, ax⟩ := Kd.R_slice ag.out
   (first | subst ax | (injection ax with f1_ f2_ f3_; have f4_ := f1_.symm; have f5_ := f3_.symm; clear f1_ f2_ f3_; subst f4_; subst f5_))
   refine start_ (n := 10) (S := fun w' => w'.cell? ⟨ab, 0, none⟩ = some (.int .i64 ((rd_T58 l0 x13_1).f0)) ∧ w'.cell? ⟨ab, 1, none⟩ = some (.int .u64 ((rd_T58 l0 x13_1).f1)) ∧ w'.cell? ⟨ab, 2, none⟩ = some (.string ((rd_T58 l0 x13_1).f2))) (ds := []) (bz 10 0) (by kernel_rfl) rfl rfl ⟨(blk_cell ac.out 0).trans rfl, (blk_cell ac.out 1).trans rfl, (blk_cell ac.out 2).trans rfl⟩ (fun hHeld => ?_); refine with_tabW codec_Encode.tab14 codec_Encode.bits14 (fun HT_ HW_ => ?_)
   generalize w21.drew = w22 at ag ac HB hHeld ⊢
   refine pu_ 0 (some 35) (bz 10 1) HT_.out ?_
   refine pu_ 1 (some 36) (bz 10 3) HT_.out ?_
   refine pu_ 6 (some 41) (bz 10 67) HT_.out ?_
   refine take_ (i := 2) (N := some 37) (v := ?_) (a' := ?_) (bz 10 71) rfl rfl (take_ofW HT_.out HW_.out (by kernel_rfl)) (fun _ _ _ h => h) (Or.inl ⟨by rfl, ?_⟩) hHeld ?_ ?_
   rotate_left
   ·rintro w' ⟨s0, s1, s2⟩
    go_simp
    with_reducible rfl
   rotate_left
   ·simp only [Act.put, sl1, sl2, sl3, i64_w, i32_w]
    rfl
   refine pu_ 3 (some 38) (bz 10 79) HT_.out ?_
   refine pu_ 4 (some 39) (bz 10 95) HT_.out ?_
   refine take_ (i := 7) (N := some 42) (v := ?_) (a' := ?_) (bz 10 223) rfl rfl (take_ofW HT_.out HW_.out (by kernel_rfl)) (fun _ _ _ h => h) (Or.inl ⟨by rfl, ?_⟩) hHeld ?_ ?_
   rotate_left
   ·rintro w' ⟨s0, s1, s2⟩
    go_simp
    with_reducible rfl
   rotate_left
   ·simp only [Act.put, sl1, sl2, sl3, i64_w, i32_w]
    rfl
   refine one_ (i := 5) (N := some 40) (bz 10 255) rfl rfl (one_of HT_.out (by kernel_rfl)) (by decide) (fun K hK => ?_)
   refine goes_ Tryd.func26 (by kernel_rfl) rfl #[.slice an x4_1.length ao, .int .u64 (IntKind.u64.wrap ((((rd_T58 l0 x13_1).f2).size : Int))), .int .i64 4] (by rfl) rfl rfl am ?_
   with_reducible refine (codec_put.calls k1 (fun k_ => some k_ = (.slice an x4_1.length ao : Value).ownBlock) (.slice an x4_1.length ao) x4_1 (IntKind.u64.wrap ((((rd_T58 l0 x13_1).f2).size : Int))) 4 t121 w _ ?side1 ?side2 A17.out).mono ?_
   (case side1 => repeat (first | (with_reducible first | exact HB.out | apply below_alloc | apply pw_below_drewN | apply below_drew1 | refine below_set ?_ ai.out) | exact HB.out))
   (case side2 => exact Kd.R_tight rfl ag.out)
   rintro e w24 ⟨v122, rfl, ho0, hb, hkp⟩
   refine ⟨_, rfl, ?_⟩
   have n0_ := Aside0.mk (blk_kept (bk ac.out) hkp (fun hs_ => (fun e_ => (Kd.R_ne ag.out ac.out (by decide)) e_) hs_))
   have n1_ := Aside0.mk (Kd.R_mono (ok' := fun k_ => True) ho0 (fun k_ hk_ => trivial))
   have n2_ := Aside0.mk (hb)
   clear ac
   clear HB
   clear ag
   have ac := n0_
   have al := n1_
   have HB := n2_
   clear n0_ n1_ n2_
   (try clear hb)
   (try clear hkp)
   (try clear ho0)
   refine hK.out _ _ ⟨(blk_cell ac.out 0).trans rfl, (blk_cell ac.out 1).trans rfl, (blk_cell ac.out 2).trans rfl⟩ (fun hHeld => ?_)
   clear hK K
   refine norm_ (a' := ?_) ?_ ?_
   rotate_left
   ·show Act.put _ (some 40) _ = _
    simp only [Act.put, sl1, sl2, sl3, i64_w, i32_w]
    rfl
   refine one_ (i := 8) (N := some 43) (bz 10 511) rfl rfl (one_of HT_.out (by kernel_rfl)) (by decide) (fun K hK => ?_)
   refine step_append_str (w0 := w) w.heap.size (by rfl) (.tmp 40) _ 60 9 5 rfl Tryd.underlying60 Tryd.underlying9 info5 v122 t121 ((rd_T58 l0 x13_1).f2) rfl rfl ?aO ?aB ?aS ?aL ?_
   (case aB => exact bw)
   (case aO => exact (Kd.own_of_R (by (with_reducible repeat (first | apply Kd.R_alloc | apply Kd.R_drewN | apply Kd.R_drew)); exact al.out)))
   (case aS => exact (below_size bw))
   (case aL => have := LMc18.out; omega)
   intro v125 w25 ho0 hb hg
   have ho := Kd.R_of_own (h1 := fun _ => rfl) (ok := fun _ => True) ho0 (fun _ _ => trivial)
   clear ho0
   have hat := True.intro
   rw [← Ny124.out] at ho
   change Kd.R (Kd.int .u8) 5 w25 w.heap.size (fun _ => True) v125 y124 at ho
   have n0_ := Aside0.mk (blk_grown (g := ab) (o := .cells #[.int .i64 ((rd_T58 l0 x13_1).f0), .int .u64 ((rd_T58 l0 x13_1).f1), .string ((rd_T58 l0 x13_1).f2)] 58 (0, 0)) (bk ac.out) hg (Kd.R_ne al.out ac.out (by decide)))
   have n1_ := Aside0.mk (hb)
   have n2_ := Aside0.mk (ho)
   clear ac
   clear HB
   clear al
   have ac := n0_
   have HB := n1_
   have HO126 := n2_
   clear n0_ n1_ n2_
   clear ho hb hg hat
   refine hK.out _ _ ⟨(blk_cell ac.out 0).trans rfl, (blk_cell ac.out 1).trans rfl, (blk_cell ac.out 2).trans rfl⟩ (fun hHeld => ?_)
   clear hK K
   refine norm_ (a' := ?_) ?_ ?_
   rotate_left
   ·show Act.put _ (some 43) _ = _
    simp only [Act.put, sl1, sl2, sl3, i64_w, i32_w]
    rfl
   refine pu_ 9 (some 4) (bz 10 1023) HT_.out ?_
   refine done_ (done_of HT_.out (by kernel_rfl)) ?_
   try go_wp2
   go_roundg k1
   case measure => have := HK1.out; omega
   case rel => exact ⟨(y124), (wrap64 (x13_1 + 1)), (by first | rfl | (simp; done) | (simp [*]; done)), H', ⟨by have := HK1.out; omega⟩, ⟨by (with_reducible repeat (first | apply Kd.R_alloc | apply Kd.R_drewN | apply Kd.R_drew)); exact HO126.out⟩, ⟨bw⟩⟩

/-! ### view_RightMember: function 33 -/
def view_RightMember.f (a0_0 : Int) (a0_1 : Int) : Option (Bool) := if a0_0 ≥ 0 then (if a0_0 < 7 then (if a0_1 ≥ 1 then (some (decide (a0_1 ≤ 9007199254740991))) else (some false)) else (some false)) else (some false)
set_option maxHeartbeats 8000000 in
set_option maxRecDepth 100000 in
theorem view_RightMember.calls (a0_0 : Int) (a0_1 : Int) (r : Bool) (w : World) (h : view_RightMember.f a0_0 a0_1 = some r) :
  Calls Tryd.prog 33 #[.agg #[.int .i64 a0_0, .int .i64 a0_1]] w fun e w' => e = .returned (.bool r) ∧ Below w.heap.size w w' := by
 have hu47 := Tryd.underlying47
 have HB := Aside0.mk (Below.refl w.heap.size w)
 have H : (if a0_0 ≥ 0 then (if a0_0 < 7 then (if a0_1 ≥ 1 then (some (decide (a0_1 ≤ 9007199254740991))) else (some false)) else (some false)) else (some false)) = some r := h
 clear h
 by_cases c2 : a0_0 ≥ 0; rotate_left
 ·rw [if_neg c2] at H
  have c2b0 : decide (0 ≤ a0_0) = false := decide_eq_false c2
  clear c2
  obtain rfl := Option.some.inj H
  go_enter Tryd.func33, Tryd.ntmps33
  go_wp2_with (first | ((with_reducible refine gate_dst (N := 1) rfl ?_); refine box_event ?hg (N := 1) ?hd (cs := #[.int .i64 a0_0, .int .i64 a0_1]) (t := 47) ?hr ?_; (case hd => rfl); (case hg => rfl); (case hr => first | (go_simp; done) | (go_simp; rfl)); intro aa hg w11 hbox hb; have n0_ := Aside0.mk (below_step bw hb); have n1_ := Aside0.mk (hbox); have n2_ := Aside0.mk ((g1 hg bw : w.heap.size ≤ aa)); have n3_ := Aside0.mk ((g1 hg bw : w.heap.size ≤ aa)); clear HB; have HB := n0_; have ab := n1_; have ac := n2_; have ad := n3_; clear n0_ n1_ n2_ n3_; clear hb hbox hg; obtain ⟨hcz12_0, hcz12_1, hfz12_0, hfz12_1⟩ := bx2 ab.out))
  go_ret
  exact ⟨er, bw⟩
 rw [if_pos c2] at H
 have c2b0 : decide (0 ≤ a0_0) = true := decide_eq_true c2
 clear c2
 by_cases c3 : a0_0 < 7; rotate_left
 ·rw [if_neg c3] at H
  have c3b0 : decide (a0_0 < 7) = false := decide_eq_false c3
  clear c3
  obtain rfl := Option.some.inj H
  go_enter Tryd.func33, Tryd.ntmps33
  go_wp2_with (first | ((with_reducible refine gate_dst (N := 1) rfl ?_); refine box_event ?hg (N := 1) ?hd (cs := #[.int .i64 a0_0, .int .i64 a0_1]) (t := 47) ?hr ?_; (case hd => rfl); (case hg => rfl); (case hr => first | (go_simp; done) | (go_simp; rfl)); intro aa hg w9 hbox hb; have n0_ := Aside0.mk (below_step bw hb); have n1_ := Aside0.mk (hbox); have n2_ := Aside0.mk ((g1 hg bw : w.heap.size ≤ aa)); have n3_ := Aside0.mk ((g1 hg bw : w.heap.size ≤ aa)); clear HB; have HB := n0_; have ab := n1_; have ac := n2_; have ad := n3_; clear n0_ n1_ n2_ n3_; clear hb hbox hg; obtain ⟨hcz10_0, hcz10_1, hfz10_0, hfz10_1⟩ := bx2 ab.out))
  go_ret
  exact ⟨er, bw⟩
 rw [if_pos c3] at H
 have c3b0 : decide (a0_0 < 7) = true := decide_eq_true c3
 clear c3
 by_cases c4 : a0_1 ≥ 1; rotate_left
 ·rw [if_neg c4] at H
  have c4b0 : decide (1 ≤ a0_1) = false := decide_eq_false c4
  clear c4
  obtain rfl := Option.some.inj H
  go_enter Tryd.func33, Tryd.ntmps33
  go_wp2_with (first | ((with_reducible refine gate_dst (N := 1) rfl ?_); refine box_event ?hg (N := 1) ?hd (cs := #[.int .i64 a0_0, .int .i64 a0_1]) (t := 47) ?hr ?_; (case hd => rfl); (case hg => rfl); (case hr => first | (go_simp; done) | (go_simp; rfl)); intro aa hg w7 hbox hb; have n0_ := Aside0.mk (below_step bw hb); have n1_ := Aside0.mk (hbox); have n2_ := Aside0.mk ((g1 hg bw : w.heap.size ≤ aa)); have n3_ := Aside0.mk ((g1 hg bw : w.heap.size ≤ aa)); clear HB; have HB := n0_; have ab := n1_; have ac := n2_; have ad := n3_; clear n0_ n1_ n2_ n3_; clear hb hbox hg; obtain ⟨hcz8_0, hcz8_1, hfz8_0, hfz8_1⟩ := bx2 ab.out))
  go_ret
  exact ⟨er, bw⟩
 rw [if_pos c4] at H
 have c4b0 : decide (1 ≤ a0_1) = true := decide_eq_true c4
 clear c4
 obtain rfl := Option.some.inj H
 go_enter Tryd.func33, Tryd.ntmps33
 go_wp2_with (first | ((with_reducible refine gate_dst (N := 1) rfl ?_); refine box_event ?hg (N := 1) ?hd (cs := #[.int .i64 a0_0, .int .i64 a0_1]) (t := 47) ?hr ?_; (case hd => rfl); (case hg => rfl); (case hr => first | (go_simp; done) | (go_simp; rfl)); intro aa hg w5 hbox hb; have n0_ := Aside0.mk (below_step bw hb); have n1_ := Aside0.mk (hbox); have n2_ := Aside0.mk ((g1 hg bw : w.heap.size ≤ aa)); have n3_ := Aside0.mk ((g1 hg bw : w.heap.size ≤ aa)); clear HB; have HB := n0_; have ab := n1_; have ac := n2_; have ad := n3_; clear n0_ n1_ n2_ n3_; clear hb hbox hg; obtain ⟨hcz6_0, hcz6_1, hfz6_0, hfz6_1⟩ := bx2 ab.out))
 go_ret
 exact ⟨er, bw⟩

/-! ### view_Right: function 25 -/
def view_Right.l0 : Nat → Int → List (S47) → Int → Int → Int → List (S47) → Option (Bool)
 | 0, _, _, _, _, _, _ => none
 | k + 1, x3, x7, x8, x9, x136000, x136001 => if x9 < x8 then (if 0 ≤ x9 then (if x9 < (x7.length : Int) then ((view_RightMember.f ((rd_T47 x7 x9).f0) ((rd_T47 x7 x9).f1)).bind fun t138 => (if t138 = true then (if ((rd_T47 x7 x9).f0) ≤ x3 then (some false) else (view_Right.l0 k ((rd_T47 x7 x9).f0) x7 x8 (wrap64 (x9 + 1)) x136000 x136001)) else (some false))) else (none)) else (none)) else (if x136000 ≥ 1 then (if x136000 ≤ 9007199254740991 then (some (decide ((x136001.length : Int) > 0))) else (some false)) else (some false))
def view_Right.f (k : Nat) (a0_0 : Int) (l0_1 : List (S47)) : Option (Bool) := view_Right.l0 k (-1) l0_1 (l0_1.length : Int) 0 a0_0 l0_1
theorem view_Right.mono_l : ∀ k, (∀ y0 y1 y2 y3 y4 y5, LeO (view_Right.l0 k y0 y1 y2 y3 y4 y5) (view_Right.l0 (k + 1) y0 y1 y2 y3 y4 y5))
 | 0 => fun _ _ _ _ _ _ r h => by simp [view_Right.l0] at h
 | k + 1 => by
  have ih0 := view_Right.mono_l k
  ·intro y0 y1 y2 y3 y4 y5
   unfold view_Right.l0
   repeat' first
   | (with_reducible exact ih0 _ _ _ _ _ _)
   | (with_reducible exact LeO.refl _)
   | (with_reducible exact LeO.none _)
   | (with_reducible refine LeO.ite ?_ ?_)
   | (with_reducible refine LeO.bind ?_ (fun _ => ?_))
   | exact ih0 _ _ _ _ _ _
   | exact LeO.none _
   | refine LeO.ite ?_ ?_
   | refine LeO.bind ?_ (fun _ => ?_)
theorem view_Right.mono : ∀ a0 a1 k, LeO (view_Right.f k a0 a1) (view_Right.f (k + 1) a0 a1) := by
 intro a0 a1 k
 have ih0 := view_Right.mono_l k
 unfold view_Right.f
 repeat' first
   | (with_reducible exact ih0 _ _ _ _ _ _)
   | (with_reducible exact LeO.refl _)
   | (with_reducible exact LeO.none _)
   | (with_reducible refine LeO.ite ?_ ?_)
   | (with_reducible refine LeO.bind ?_ (fun _ => ?_))
   | exact ih0 _ _ _ _ _ _
   | exact LeO.none _
   | refine LeO.ite ?_ ?_
   | refine LeO.bind ?_ (fun _ => ?_)
set_option maxHeartbeats 8000000 in
set_option maxRecDepth 100000 in
theorem view_Right.calls (k : Nat) (a0_0 : Int) (A0_1 : Option Addr) (c0_1 : Nat) (l0_1 : List (S47)) (r : Bool) (w : World) (hr0_1 : Kd.C k47 w A0_1 l0_1.length l0_1) (hc0_1 : l0_1.length ≤ c0_1) (h : view_Right.f k a0_0 l0_1 = some r) :
  Calls Tryd.prog 25 #[.agg #[.int .i64 a0_0, .slice A0_1 l0_1.length c0_1]] w fun e w' => e = .returned (.bool r) ∧ Below w.heap.size w w' := by
 have hu35 := Tryd.underlying35
 have hu47 := Tryd.underlying47
 have HR0_1 := Aside0.mk hr0_1
 have HC0_1 := Aside0.mk hc0_1
 clear hr0_1 hc0_1
 have HB := Aside0.mk (Below.refl w.heap.size w)
 have H : (view_Right.l0 k (-1) l0_1 (l0_1.length : Int) 0 a0_0 l0_1) = some r := h
 clear h
 have H' := Aside0.mk H
 clear H
 go_enter Tryd.func25, Tryd.ntmps25
 go_wp2_with (first | ((with_reducible refine gate_dst (N := 1) rfl ?_); (try (refine gate_guard (by rfl) ?_; dsimp only)); refine box_event ?hg (N := 1) ?hd (cs := #[.int .i64 a0_0, .slice A0_1 l0_1.length c0_1]) (t := 35) ?hr ?_; (case hd => rfl); (case hg => rfl); (case hr => first | (go_simp; done) | (go_simp; rfl)); intro ah hg w2 hbox hb; have n0_ := Aside0.mk (below_step bw hb); have n1_ := Aside0.mk (hbox); have n2_ := Aside0.mk ((g1 hg bw : w.heap.size ≤ ah)); have n3_ := Aside0.mk ((g1 hg bw : w.heap.size ≤ ah)); clear HB; have HB := n0_; have aa := n1_; have GW135 := n2_; have GE135 := n3_; clear n0_ n1_ n2_ n3_; clear hb hbox hg; obtain ⟨hcz3_0, hcz3_1, hfz3_0, hfz3_1⟩ := bx2 aa.out))
 go_loopg [3, 9] k (fun kq v3 v9 w' => ∃ (x3_1 : Int) (x9_1 : Int), v3 = .int .i64 x3_1 ∧ v9 = .int .i64 x9_1 ∧ Aside0 (view_Right.l0 kq x3_1 l0_1 (l0_1.length : Int) x9_1 a0_0 l0_1 = some r) ∧ Aside0 (kq ≤ k) ∧ Aside0 (w'.heap[ah]? = some (.cells #[.int .i64 a0_0, (.slice A0_1 l0_1.length c0_1)] 35 (0, 0))) ∧ Aside0 (Below w.heap.size w w'))
 case atStart => exact ⟨((-1)), (0), (by first | rfl | (simp; done) | (simp [*]; done)), (by first | rfl | (simp; done) | (simp [*]; done)), H', ⟨Nat.le_refl _⟩, ⟨by (with_reducible repeat (first | refine blk_drewN ?_ _ | refine blk_drew ?_ | refine blk_alloc ?_ _)); exact aa.out⟩, ⟨bw⟩⟩
 case round =>
  clear H'
  try clear c2
  try clear p2
  try clear hcz3_0 hcz3_1
  try clear hfz3_0 hfz3_1
  obtain ⟨x3_1, x9_1, rfl, rfl, HA, HK1, aa, HB⟩ := hrel
  cases gk with
  | zero => exact absurd HA.out (by simp [view_Right.l0])
  | succ k1 =>
   have H := HA.out
   clear HA
   simp only [view_Right.l0] at H
   by_cases c4 : x9_1 < (l0_1.length : Int); rotate_left
   ·rw [if_neg c4] at H
    have c4b0 : decide (x9_1 < (l0_1.length : Int)) = false := decide_eq_false c4
    clear c4
    by_cases c24 : a0_0 ≥ 1; rotate_left
    ·rw [if_neg c24] at H
     have c24b0 : decide (1 ≤ a0_0) = false := decide_eq_false c24
     clear c24
     obtain rfl := Option.some.inj H
     obtain ⟨hcz28_0, hcz28_1, hfz28_0, hfz28_1⟩ := bx2 aa.out
     go_wp2
     go_ret
     exact ⟨er, bw⟩
    rw [if_pos c24] at H
    have c24b0 : decide (1 ≤ a0_0) = true := decide_eq_true c24
    clear c24
    by_cases c25 : a0_0 ≤ 9007199254740991; rotate_left
    ·rw [if_neg c25] at H
     have c25b0 : decide (a0_0 ≤ 9007199254740991) = false := decide_eq_false c25
     clear c25
     obtain rfl := Option.some.inj H
     obtain ⟨hcz27_0, hcz27_1, hfz27_0, hfz27_1⟩ := bx2 aa.out
     go_wp2
     go_ret
     exact ⟨er, bw⟩
    rw [if_pos c25] at H
    have c25b0 : decide (a0_0 ≤ 9007199254740991) = true := decide_eq_true c25
    clear c25
    obtain rfl := Option.some.inj H
    obtain ⟨hcz26_0, hcz26_1, hfz26_0, hfz26_1⟩ := bx2 aa.out
    go_wp2
    go_ret
    exact ⟨er, bw⟩
   rw [if_pos c4] at H
   have c4b0 : decide (x9_1 < (l0_1.length : Int)) = true := decide_eq_true c4
   clear c4
   by_cases c5 : 0 ≤ x9_1; rotate_left
   ·rw [if_neg c5] at H
    exact absurd H (by simp)
   rw [if_pos c5] at H
   have c5b0 : decide (0 ≤ x9_1) = true := decide_eq_true c5
   clear c5
   by_cases c6 : x9_1 < (l0_1.length : Int); rotate_left
   ·rw [if_neg c6] at H
    exact absurd H (by simp)
   rw [if_pos c6] at H
   have c6b0 : decide (x9_1 < (l0_1.length : Int)) = true := decide_eq_true c6
   clear c6
   replace H := Option.bind_eq_some_iff.mp H
   obtain ⟨t138, A70, H⟩ := H
   replace H : (if t138 = true then (if ((rd_T47 l0_1 x9_1).f0) ≤ x3_1 then (some false) else (view_Right.l0 k1 ((rd_T47 l0_1 x9_1).f0) l0_1 (l0_1.length : Int) (wrap64 (x9_1 + 1)) a0_0 l0_1)) else (some false)) = some r := H
   have A7 := Aside0.mk A70
   clear A70
   by_cases c8 : t138 = true; rotate_left
   ·replace c8 := Bool.eq_false_iff.mpr c8
    subst c8
    have H1 : (some false) = some r := by rw [if_neg (show ¬ (false = true) by decide)] at H; exact H
    clear H
    have H := H1
    clear H1
    obtain rfl := Option.some.inj H
    have p136 : 0 ≤ (x9_1 : Int) := od
    have q136 : x9_1 < (l0_1.length : Int) := od
    obtain ⟨ai, e136, ac, ad⟩ := at_T47 HR0_1.out x9_1 p136 q136
    cases e136
    replace ac := (HB.out.cell (World.block_lt_of_cell? w _ ac)).trans ac
    replace ad := (HB.out.cell (World.block_lt_of_cell? w _ ad)).trans ad
    replace p136 := eq_true p136
    replace q136 := eq_true q136
    go_wp2_with (first | ((with_reducible refine gate_dst (N := 5) rfl ?_); (try (refine gate_guard (by rfl) ?_; dsimp only)); refine box_event ?hg (N := 5) ?hd (cs := #[.int .i64 0, .int .i64 0]) (t := 47) ?hr ?_; (case hd => rfl); (case hg => rfl); (case hr => first | (go_simp; done) | (go_simp; rfl)); intro ae hg w20 hbox hb; have n0_ := Aside0.mk (nb aa.out hb); have n1_ := Aside0.mk (below_step bw hb); have n2_ := Aside0.mk (hbox); have n3_ := Aside0.mk ((g1 hg bw : w.heap.size ≤ ae)); have n4_ := Aside0.mk ((g1 hg bw : w.heap.size ≤ ae)); have n5_ := Aside0.mk ((n1 hg aa.out : ah ≠ ae)); have n6_ := Aside0.mk ((n2 hg aa.out : ae ≠ ah)); clear aa; clear HB; have aa := n0_; have HB := n1_; have af := n2_; have aj := n3_; have ak := n4_; have ab := n5_; have ag := n6_; clear n0_ n1_ n2_ n3_ n4_ n5_ n6_; clear hb hbox hg; have hnb21 := ag.out; have hnc21 := ab.out; obtain ⟨hcz22_0, hcz22_1, hfz22_0, hfz22_1⟩ := bx2 af.out) | ((with_reducible refine gate_callee (f := 33) rfl ?_); refine goesL_ (some 14) rfl rfl Tryd.func33 (by kernel_rfl) rfl #[.agg #[.int .i64 ((rd_T47 l0_1 x9_1).f0), .int .i64 ((rd_T47 l0_1 x9_1).f1)]] rfl am ?_; (with_reducible refine (view_RightMember.calls ((rd_T47 l0_1 x9_1).f0) ((rd_T47 l0_1 x9_1).f1) false _ A7.out).mono ?_); rintro e w23 ⟨rfl, hb⟩; refine ⟨_, rfl, ?_⟩; have n0_ := Aside0.mk (blk_below (g := ah) (o := .cells #[.int .i64 a0_0, .slice (some ai) l0_1.length c0_1] 35 (0, 0)) (by (with_reducible repeat (first | refine blk_drewN ?_ _ | refine blk_drew ?_ | refine blk_alloc ?_ _ | refine blk_far ?_ ab.out _)); exact aa.out) hb); have n1_ := Aside0.mk (blk_below (g := ae) (o := .cells #[.int .i64 ((rd_T47 l0_1 x9_1).f0), .int .i64 ((rd_T47 l0_1 x9_1).f1)] 47 (0, 0)) (by (with_reducible repeat (first | refine blk_drewN ?_ _ | refine blk_drew ?_ | refine blk_alloc ?_ _)); refine blk_put (cs := #[.int .i64 ((rd_T47 l0_1 x9_1).f0), .int .i64 0]) ?_ 1 _ rfl; (with_reducible repeat (first | refine blk_drewN ?_ _ | refine blk_drew ?_ | refine blk_alloc ?_ _)); refine blk_put (cs := #[.int .i64 0, .int .i64 0]) ?_ 0 _ rfl; (with_reducible repeat (first | refine blk_drewN ?_ _ | refine blk_drew ?_ | refine blk_alloc ?_ _)); exact af.out) hb); have n2_ := Aside0.mk (below_step bw hb); clear aa; clear af; clear HB; have aa := n0_; have af := n1_; have HB := n2_; clear n0_ n1_ n2_; (try clear hb)))
    go_ret
    exact ⟨er, bw⟩
   subst c8
   have H1 : (if ((rd_T47 l0_1 x9_1).f0) ≤ x3_1 then (some false) else (view_Right.l0 k1 ((rd_T47 l0_1 x9_1).f0) l0_1 (l0_1.length : Int) (wrap64 (x9_1 + 1)) a0_0 l0_1)) = some r := by rw [if_pos rfl] at H; exact H
   clear H
   have H := H1
   clear H1
   by_cases c9 : ((rd_T47 l0_1 x9_1).f0) ≤ x3_1
   ·rw [if_pos c9] at H
    have c9b0 : decide (((rd_T47 l0_1 x9_1).f0) ≤ x3_1) = true := decide_eq_true c9
    clear c9
    obtain rfl := Option.some.inj H
    have p136 : 0 ≤ (x9_1 : Int) := od
    have q136 : x9_1 < (l0_1.length : Int) := od
    obtain ⟨ai, e136, ac, ad⟩ := at_T47 HR0_1.out x9_1 p136 q136
    cases e136
    replace ac := (HB.out.cell (World.block_lt_of_cell? w _ ac)).trans ac
    replace ad := (HB.out.cell (World.block_lt_of_cell? w _ ad)).trans ad
    replace p136 := eq_true p136
    replace q136 := eq_true q136
    go_wp2_with (first | ((with_reducible refine gate_dst (N := 5) rfl ?_); (try (refine gate_guard (by rfl) ?_; dsimp only)); refine box_event ?hg (N := 5) ?hd (cs := #[.int .i64 0, .int .i64 0]) (t := 47) ?hr ?_; (case hd => rfl); (case hg => rfl); (case hr => first | (go_simp; done) | (go_simp; rfl)); intro ae hg w10 hbox hb; have n0_ := Aside0.mk (nb aa.out hb); have n1_ := Aside0.mk (below_step bw hb); have n2_ := Aside0.mk (hbox); have n3_ := Aside0.mk ((g1 hg bw : w.heap.size ≤ ae)); have n4_ := Aside0.mk ((g1 hg bw : w.heap.size ≤ ae)); have n5_ := Aside0.mk ((n1 hg aa.out : ah ≠ ae)); have n6_ := Aside0.mk ((n2 hg aa.out : ae ≠ ah)); clear aa; clear HB; have aa := n0_; have HB := n1_; have af := n2_; have aj := n3_; have ak := n4_; have ab := n5_; have ag := n6_; clear n0_ n1_ n2_ n3_ n4_ n5_ n6_; clear hb hbox hg; have hnb11 := ag.out; have hnc11 := ab.out; obtain ⟨hcz12_0, hcz12_1, hfz12_0, hfz12_1⟩ := bx2 af.out) | ((with_reducible refine gate_callee (f := 33) rfl ?_); refine goesL_ (some 14) rfl rfl Tryd.func33 (by kernel_rfl) rfl #[.agg #[.int .i64 ((rd_T47 l0_1 x9_1).f0), .int .i64 ((rd_T47 l0_1 x9_1).f1)]] rfl am ?_; (with_reducible refine (view_RightMember.calls ((rd_T47 l0_1 x9_1).f0) ((rd_T47 l0_1 x9_1).f1) true _ A7.out).mono ?_); rintro e w13 ⟨rfl, hb⟩; refine ⟨_, rfl, ?_⟩; have n0_ := Aside0.mk (blk_below (g := ah) (o := .cells #[.int .i64 a0_0, .slice (some ai) l0_1.length c0_1] 35 (0, 0)) (by (with_reducible repeat (first | refine blk_drewN ?_ _ | refine blk_drew ?_ | refine blk_alloc ?_ _ | refine blk_far ?_ ab.out _)); exact aa.out) hb); have n1_ := Aside0.mk (blk_below (g := ae) (o := .cells #[.int .i64 ((rd_T47 l0_1 x9_1).f0), .int .i64 ((rd_T47 l0_1 x9_1).f1)] 47 (0, 0)) (by (with_reducible repeat (first | refine blk_drewN ?_ _ | refine blk_drew ?_ | refine blk_alloc ?_ _)); refine blk_put (cs := #[.int .i64 ((rd_T47 l0_1 x9_1).f0), .int .i64 0]) ?_ 1 _ rfl; (with_reducible repeat (first | refine blk_drewN ?_ _ | refine blk_drew ?_ | refine blk_alloc ?_ _)); refine blk_put (cs := #[.int .i64 0, .int .i64 0]) ?_ 0 _ rfl; (with_reducible repeat (first | refine blk_drewN ?_ _ | refine blk_drew ?_ | refine blk_alloc ?_ _)); exact af.out) hb); have n2_ := Aside0.mk (below_step bw hb); clear aa; clear af; clear HB; have aa := n0_; have af := n1_; have HB := n2_; clear n0_ n1_ n2_; (try clear hb); obtain ⟨hcz14_0, hcz14_1, hfz14_0, hfz14_1⟩ := bx2 af.out))
    go_ret
    exact ⟨er, bw⟩
   rw [if_neg c9] at H
   have c9b0 : decide (((rd_T47 l0_1 x9_1).f0) ≤ x3_1) = false := decide_eq_false c9
   clear c9
   have H' := Aside0.mk H
   clear H
   have p136 : 0 ≤ (x9_1 : Int) := od
   have q136 : x9_1 < (l0_1.length : Int) := od
   obtain ⟨ai, e136, ac, ad⟩ := at_T47 HR0_1.out x9_1 p136 q136
   cases e136
   replace ac := (HB.out.cell (World.block_lt_of_cell? w _ ac)).trans ac
   replace ad := (HB.out.cell (World.block_lt_of_cell? w _ ad)).trans ad
   replace p136 := eq_true p136
   replace q136 := eq_true q136
   go_wp2_with (first | ((with_reducible refine gate_dst (N := 5) rfl ?_); (try (refine gate_guard (by rfl) ?_; dsimp only)); refine box_event ?hg (N := 5) ?hd (cs := #[.int .i64 0, .int .i64 0]) (t := 47) ?hr ?_; (case hd => rfl); (case hg => rfl); (case hr => first | (go_simp; done) | (go_simp; rfl)); intro ae hg w15 hbox hb; have n0_ := Aside0.mk (nb aa.out hb); have n1_ := Aside0.mk (below_step bw hb); have n2_ := Aside0.mk (hbox); have n3_ := Aside0.mk ((g1 hg bw : w.heap.size ≤ ae)); have n4_ := Aside0.mk ((g1 hg bw : w.heap.size ≤ ae)); have n5_ := Aside0.mk ((n1 hg aa.out : ah ≠ ae)); have n6_ := Aside0.mk ((n2 hg aa.out : ae ≠ ah)); clear aa; clear HB; have aa := n0_; have HB := n1_; have af := n2_; have aj := n3_; have ak := n4_; have ab := n5_; have ag := n6_; clear n0_ n1_ n2_ n3_ n4_ n5_ n6_; clear hb hbox hg; have hnb16 := ag.out; have hnc16 := ab.out; obtain ⟨hcz17_0, hcz17_1, hfz17_0, hfz17_1⟩ := bx2 af.out) | ((with_reducible refine gate_callee (f := 33) rfl ?_); refine goesL_ (some 14) rfl rfl Tryd.func33 (by kernel_rfl) rfl #[.agg #[.int .i64 ((rd_T47 l0_1 x9_1).f0), .int .i64 ((rd_T47 l0_1 x9_1).f1)]] rfl am ?_; (with_reducible refine (view_RightMember.calls ((rd_T47 l0_1 x9_1).f0) ((rd_T47 l0_1 x9_1).f1) true _ A7.out).mono ?_); rintro e w18 ⟨rfl, hb⟩; refine ⟨_, rfl, ?_⟩; have n0_ := Aside0.mk (blk_below (g := ah) (o := .cells #[.int .i64 a0_0, .slice (some ai) l0_1.length c0_1] 35 (0, 0)) (by (with_reducible repeat (first | refine blk_drewN ?_ _ | refine blk_drew ?_ | refine blk_alloc ?_ _ | refine blk_far ?_ ab.out _)); exact aa.out) hb); have n1_ := Aside0.mk (blk_below (g := ae) (o := .cells #[.int .i64 ((rd_T47 l0_1 x9_1).f0), .int .i64 ((rd_T47 l0_1 x9_1).f1)] 47 (0, 0)) (by (with_reducible repeat (first | refine blk_drewN ?_ _ | refine blk_drew ?_ | refine blk_alloc ?_ _)); refine blk_put (cs := #[.int .i64 ((rd_T47 l0_1 x9_1).f0), .int .i64 0]) ?_ 1 _ rfl; (with_reducible repeat (first | refine blk_drewN ?_ _ | refine blk_drew ?_ | refine blk_alloc ?_ _)); refine blk_put (cs := #[.int .i64 0, .int .i64 0]) ?_ 0 _ rfl; (with_reducible repeat (first | refine blk_drewN ?_ _ | refine blk_drew ?_ | refine blk_alloc ?_ _)); exact af.out) hb); have n2_ := Aside0.mk (below_step bw hb); clear aa; clear af; clear HB; have aa := n0_; have af := n1_; have HB := n2_; clear n0_ n1_ n2_; (try clear hb); obtain ⟨hcz19_0, hcz19_1, hfz19_0, hfz19_1⟩ := bx2 af.out))
   go_roundg k1
   case measure => have := HK1.out; omega
   case rel => exact ⟨((rd_T47 l0_1 x9_1).f0), (wrap64 (x9_1 + 1)), (by first | rfl | (simp; done) | (simp [*]; done)), (by first | rfl | (simp; done) | (simp [*]; done)), H', ⟨by have := HK1.out; omega⟩, ⟨by (with_reducible repeat (first | refine blk_drewN ?_ _ | refine blk_drew ?_ | refine blk_alloc ?_ _)); exact aa.out⟩, ⟨bw⟩⟩

end Go.Proofs.YtokebimfflobbaaDoor.P
