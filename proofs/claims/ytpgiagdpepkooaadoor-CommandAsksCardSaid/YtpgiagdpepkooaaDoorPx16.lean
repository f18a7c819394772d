-- Printed by this session's program wip/xp.py (a turned copy of the kit's printer): functions, their contracts.
import Derived.Test.YtpgiagdpepkooaaDoorPx0
import Derived.Test.YtpgiagdpepkooaaDoorPx38
namespace Go.Proofs.YtpgiagdpepkooaaDoor.P
open Go.RowKit Go.Proofs.YtpgiagdpepkooaaDoorW.PrintWords Go.Proofs.YtpgiagdpepkooaaDoorW.PrintLast Go.Proofs.YtpgiagdpepkooaaDoorW.PrintMore
attribute [local go_sem] max2_int min2_int max_two min_two max_three min_three max_four min_four   -- for this text's walks alone
set_option linter.unusedVariables false
set_option linter.unusedSimpArgs false

/-! ### carillonref14_long: function 36 -/
def carillonref14_long.f (a0 : Int) : Option (Int × Int × ByteArray) := some (3, IntKind.u64.wrap (a0), (⟨#[]⟩ : ByteArray))
set_option maxHeartbeats 8000000 in
set_option maxRecDepth 100000 in
theorem carillonref14_long.calls (a0 : Int) (r1 : Int) (r2 : Int) (r3 : ByteArray) (w : World) (h : carillonref14_long.f a0 = some (r1, r2, r3)) :
  Calls Tryd.prog 36 #[.int .i64 a0] w fun e w' => e = .returned (.agg #[.int .i64 r1, .int .u64 r2, .string r3]) ∧ Below w.heap.size w w' := by
 have hu57 := Tryd.underlying57
 have HB := Aside0.mk (Below.refl w.heap.size w)
 have H : (some (3, IntKind.u64.wrap (a0), (⟨#[]⟩ : ByteArray))) = some (r1, r2, r3) := h
 clear h
 simp only [Option.some.injEq, Prod.mk.injEq] at H
 obtain ⟨rfl, rfl, rfl⟩ := H
 go_enter Tryd.func36, Tryd.ntmps36
 go_wp2_with (first | ((with_reducible refine gate_dst (N := 2) rfl ?_); refine box_event ?hg (N := 2) ?hd (cs := #[.int .i64 0, .int .u64 0, .string (⟨#[]⟩ : ByteArray)]) (t := 57) ?hr ?_; (case hd => rfl); (case hg => rfl); (case hr => first | (go_simp; done) | (go_simp; rfl)); intro aa hg w2 hbox hb; have ab := Aside0.mk (hbox); have GW392 := Aside0.mk ((g1 hg bw : w.heap.size ≤ aa)); have GE392 := Aside0.mk ((g1 hg bw : w.heap.size ≤ aa)); replace HB := Aside0.mk (below_step bw hb); clear hb hbox hg; obtain ⟨hcz3_0, hcz3_1, hcz3_2, hfz3_0, hfz3_1, hfz3_2⟩ := bx3 ab.out))
 refine bodyPost_ret (results_cell_row rfl _ _ aa 57 #[.int .i64 3, .int .u64 (IntKind.u64.wrap (a0)), .string (⟨#[]⟩ : ByteArray)] (0, 0) _ rfl (by (with_reducible repeat (first | refine blk_drewN ?_ _ | refine blk_drew ?_ | refine blk_alloc ?_ _)); refine blk_put (cs := #[.int .i64 3, .int .u64 (IntKind.u64.wrap (a0)), .string (⟨#[]⟩ : ByteArray)]) ?_ 2 _ rfl; (with_reducible repeat (first | refine blk_drewN ?_ _ | refine blk_drew ?_ | refine blk_alloc ?_ _)); refine blk_put (cs := #[.int .i64 3, .int .u64 0, .string (⟨#[]⟩ : ByteArray)]) ?_ 1 _ rfl; (with_reducible repeat (first | refine blk_drewN ?_ _ | refine blk_drew ?_ | refine blk_alloc ?_ _)); refine blk_put (cs := #[.int .i64 0, .int .u64 0, .string (⟨#[]⟩ : ByteArray)]) ?_ 0 _ rfl; (with_reducible repeat (first | refine blk_drewN ?_ _ | refine blk_drew ?_ | refine blk_alloc ?_ _)); exact ab.out) Tryd.underlying57 rfl (by kernel_rfl)) rfl ?_
 exact ⟨er, bw⟩

/-! ### carillonref01_kinds: function 59 -/
def carillonref01_kinds.l0 : Nat → ByteArray → List Int → List Int → Bool → Int → Option (List Int × List Int × Bool)
 | 0, _, _, _, _, _ => none
 | k + 1, x0, x5, x6, x7, x8 => if x8 < (x0.size : Int) then (if 0 ≤ x8 then ((carillonref01_kindOf.f (bt x0 x8)).bind fun t427 => (if (bt x0 x8) = 42 then (if x7 = true then (if t427 = 0 then (some (([] : List Int), ([] : List Int), false)) else (if x6.length < 17592186044416 then (carillonref01_kinds.l0 k x0 x5 (x6 ++ [t427]) x7 (wrap64 (x8 + 1))) else (none))) else (carillonref01_kinds.l0 k x0 x5 x6 true (wrap64 (x8 + 1)))) else (if t427 = 0 then (some (([] : List Int), ([] : List Int), false)) else (if x7 = true then (if x6.length < 17592186044416 then (carillonref01_kinds.l0 k x0 x5 (x6 ++ [t427]) x7 (wrap64 (x8 + 1))) else (none)) else (if x5.length < 17592186044416 then (carillonref01_kinds.l0 k x0 (x5 ++ [t427]) x6 x7 (wrap64 (x8 + 1))) else (none)))))) else (none)) else (if x7 = true then (some (x5, x6, decide ((x6.length : Int) > 0))) else (some (x5, x6, true)))
def carillonref01_kinds.f (k : Nat) (a0 : ByteArray) : Option (List Int × List Int × Bool) := carillonref01_kinds.l0 k a0 ([] : List Int) ([] : List Int) false 0
set_option maxHeartbeats 8000000 in
set_option maxRecDepth 100000 in
theorem carillonref01_kinds.calls (k : Nat) (a0 : ByteArray) (r1 : List Int) (r2 : List Int) (r3 : Bool) (w : World) (h : carillonref01_kinds.f k a0 = some (r1, r2, r3)) :
  Calls Tryd.prog 59 #[.string a0] w fun e w' => ∃ v0_ v1_ : Value, e = .returned (.tuple #[v0_, v1_, .bool r3]) ∧ Kd.R (Kd.int .i64) 3 w' w.heap.size (fun k_ => some k_ ≠ (v1_ : Value).ownBlock) v0_ r1 ∧ Kd.R (Kd.int .i64) 3 w' w.heap.size (fun k_ => some k_ ≠ (v0_ : Value).ownBlock) v1_ r2 ∧ Below w.heap.size w w' := by
 have HB := Aside0.mk (Below.refl w.heap.size w)
 have H : (carillonref01_kinds.l0 k a0 ([] : List Int) ([] : List Int) false 0) = some (r1, r2, r3) := h
 clear h
 have H' := Aside0.mk H
 clear H
 go_enter Tryd.func59, Tryd.ntmps59
 go_wp2
 go_loopg [5, 6, 7, 8] k (fun kq v5 v6 v7 v8 w' => ∃ (x5_1 : List Int) (x6_1 : List Int) (x7_1 : Bool) (x8_1 : Int), v7 = .bool x7_1 ∧ v8 = .int .i64 x8_1 ∧ Aside0 (carillonref01_kinds.l0 kq a0 x5_1 x6_1 x7_1 x8_1 = some (r1, r2, r3)) ∧ Aside0 (kq ≤ k) ∧ Aside0 (Kd.R (Kd.int .i64) 3 w' w.heap.size (fun k_ => some k_ ≠ (v6 : Value).ownBlock) v5 x5_1) ∧ Aside0 (Kd.R (Kd.int .i64) 3 w' w.heap.size (fun k_ => some k_ ≠ (v5 : Value).ownBlock) v6 x6_1) ∧ Aside0 (Below w.heap.size w w'))
 case atStart => exact ⟨(([] : List Int)), (([] : List Int)), (false), (0), (by first | rfl | (simp; done) | (simp [*]; done)), (by first | rfl | (simp; done) | (simp [*]; done)), H', ⟨Nat.le_refl _⟩, ⟨by first | exact Kd.R_nil _ _ _ _ _ | exact Kd.N_nil _ _ _ _ _ | exact Kd.V_nil _ _ _ _ _ | exact Kd.Q_nil _ _ _ _ _ | exact Kd.S_nil _ _ _ _ _⟩, ⟨by first | exact Kd.R_nil _ _ _ _ _ | exact Kd.N_nil _ _ _ _ _ | exact Kd.V_nil _ _ _ _ _ | exact Kd.Q_nil _ _ _ _ _ | exact Kd.S_nil _ _ _ _ _⟩, ⟨bw⟩⟩
 case round =>
  clear H'
  obtain ⟨x5_1, x6_1, x7_1, x8_1, rfl, rfl, HA, HK1, aa, ab, HB⟩ := hrel
  cases gk with
  | zero => exact absurd HA.out (by simp [carillonref01_kinds.l0])
  | succ k1 =>
   have H := HA.out
   clear HA
   simp only [carillonref01_kinds.l0] at H
   by_cases c2 : x8_1 < (a0.size : Int); rotate_left
   ·rw [if_neg c2] at H
    have c2b0 : decide (x8_1 < (a0.size : Int)) = false := decide_eq_false c2
    clear c2
    by_cases c18 : x7_1 = true; rotate_left
    ·replace c18 := Bool.eq_false_iff.mpr c18
     subst c18
     have H1 : (some (x5_1, x6_1, true)) = some (r1, r2, r3) := by rw [if_neg (show ¬ (false = true) by decide)] at H; exact H
     clear H
     have H := H1
     clear H1
     simp only [Option.some.injEq, Prod.mk.injEq] at H
     obtain ⟨rfl, rfl, rfl⟩ := H
     go_wp2
     go_ret3
     exact ⟨_, _, er, by (with_reducible repeat (first | apply Kd.R_alloc | apply Kd.R_drewN | apply Kd.R_drew)); exact aa.out, by (with_reducible repeat (first | apply Kd.R_alloc | apply Kd.R_drewN | apply Kd.R_drew)); exact ab.out, bw⟩
    subst c18
    have H1 : (some (x5_1, x6_1, decide ((x6_1.length : Int) > 0))) = some (r1, r2, r3) := by rw [if_pos rfl] at H; exact H
    clear H
    have H := H1
    clear H1
    simp only [Option.some.injEq, Prod.mk.injEq] at H
    obtain ⟨rfl, rfl, rfl⟩ := H
    obtain ⟨Ao19, co19, eo19⟩ := Kd.R_slice ab.out
    subst eo19
    go_wp2
    go_ret3
    exact ⟨_, _, er, by (with_reducible repeat (first | apply Kd.R_alloc | apply Kd.R_drewN | apply Kd.R_drew)); exact aa.out, by (with_reducible repeat (first | apply Kd.R_alloc | apply Kd.R_drewN | apply Kd.R_drew)); exact ab.out, bw⟩
   rw [if_pos c2] at H
   have c2b0 : decide (x8_1 < (a0.size : Int)) = true := decide_eq_true c2
   clear c2
   obtain ⟨c3, H⟩ := its H
   have c3b0 : decide (0 ≤ x8_1) = true := decide_eq_true c3
   clear c3
   replace H := Option.bind_eq_some_iff.mp H
   obtain ⟨t427, A50, H⟩ := H
   have A5 := Aside0.mk A50
   clear A50
   by_cases c7 : (bt a0 x8_1) = 42
   ·rw [if_pos c7] at H
    have c7b0 : ((bt a0 x8_1) == 42) = true := beq_iff_eq.mpr c7
    have c7b1 : ((bt a0 x8_1) != 42) = false := bne_eq_false_iff_eq.mpr c7
    clear c7
    by_cases c8 : x7_1 = true; rotate_left
    ·replace c8 := Bool.eq_false_iff.mpr c8
     subst c8
     have H1 : (carillonref01_kinds.l0 k1 a0 x5_1 x6_1 true (wrap64 (x8_1 + 1))) = some (r1, r2, r3) := by rw [if_neg (show ¬ (false = true) by decide)] at H; exact H
     clear H
     have H := H1
     clear H1
     have H' := Aside0.mk H
     clear H
     have p4 : 0 ≤ (x8_1 : Int) := od
     have q4 : x8_1 < (a0.size : Int) := od
     have hx4 := bt_at a0 x8_1
     replace p4 := eq_true p4
     replace q4 := eq_true q4
     go_wp2_with (first | ((with_reducible refine gate_callee (f := 76) rfl ?_); refine goesL_ (some 19) rfl rfl Tryd.func76 (by kernel_rfl) rfl #[.int .u8 (bt a0 x8_1)] rfl am ?_; (with_reducible refine (carillonref01_kindOf.calls (bt a0 x8_1) t427 _ A5.out).mono ?_); rintro e w' ⟨rfl, ⟨nd, rfl⟩⟩; refine ⟨_, rfl, ?_⟩; have p6 : 0 ≤ (x8_1 : Int) := od; have q6 : x8_1 < (a0.size : Int) := od; have hx6 := bt_at a0 x8_1; replace p6 := eq_true p6; replace q6 := eq_true q6))
     go_roundg k1
     case measure => have := HK1.out; omega
     case rel => exact ⟨(x5_1), (x6_1), (true), (wrap64 (x8_1 + 1)), (by first | rfl | (simp; done) | (simp [*]; done)), (by first | rfl | (simp; done) | (simp [*]; done)), H', ⟨by have := HK1.out; omega⟩, ⟨r_ aa.out⟩, ⟨r_ ab.out⟩, ⟨bw⟩⟩
    subst c8
    have H1 := H
    rw [if_pos rfl] at H1
    clear H
    have H := H1
    clear H1
    by_cases c9 : t427 = 0
    ·rw [if_pos c9] at H
     have c9b0 : (t427 == 0) = true := beq_iff_eq.mpr c9
     have c9b1 : (t427 != 0) = false := bne_eq_false_iff_eq.mpr c9
     clear c9
     simp only [Option.some.injEq, Prod.mk.injEq] at H
     obtain ⟨rfl, rfl, rfl⟩ := H
     have p4 : 0 ≤ (x8_1 : Int) := od
     have q4 : x8_1 < (a0.size : Int) := od
     have hx4 := bt_at a0 x8_1
     replace p4 := eq_true p4
     replace q4 := eq_true q4
     go_wp2_with (first | ((with_reducible refine gate_callee (f := 76) rfl ?_); refine goesL_ (some 19) rfl rfl Tryd.func76 (by kernel_rfl) rfl #[.int .u8 (bt a0 x8_1)] rfl am ?_; (with_reducible refine (carillonref01_kindOf.calls (bt a0 x8_1) t427 _ A5.out).mono ?_); rintro e w' ⟨rfl, ⟨nd, rfl⟩⟩; refine ⟨_, rfl, ?_⟩; have p6 : 0 ≤ (x8_1 : Int) := od; have q6 : x8_1 < (a0.size : Int) := od; have hx6 := bt_at a0 x8_1; replace p6 := eq_true p6; replace q6 := eq_true q6))
     go_ret3
     exact ⟨_, _, er, by first | exact Kd.R_nil _ _ _ _ _ | exact Kd.N_nil _ _ _ _ _ | exact Kd.V_nil _ _ _ _ _ | exact Kd.Q_nil _ _ _ _ _ | exact Kd.S_nil _ _ _ _ _, by first | exact Kd.R_nil _ _ _ _ _ | exact Kd.N_nil _ _ _ _ _ | exact Kd.V_nil _ _ _ _ _ | exact Kd.Q_nil _ _ _ _ _ | exact Kd.S_nil _ _ _ _ _, bw⟩
    rw [if_neg c9] at H
    have c9b0 : (t427 == 0) = false := beq_eq_false_iff_ne.mpr c9
    have c9b1 : (t427 != 0) = true := bne_iff_ne.mpr c9
    obtain ⟨c10, H⟩ := its H
    have LMc10 := Aside0.mk c10
    clear c10
    obtain ⟨y428, hy428⟩ : ∃ y_ : List Int, y_ = (x6_1 ++ [t427]) := ⟨_, rfl⟩
    replace H : (carillonref01_kinds.l0 k1 a0 x5_1 y428 true (wrap64 (x8_1 + 1))) = some (r1, r2, r3) := by first | (rw [hy428]; with_reducible exact H) | (have H2_ := (Option.bind_some _ _).symm.trans H; rw [hy428]; with_reducible exact H2_) | (have H2_ := (Option.bind_some _ _).symm.trans H; with_reducible exact H2_) | with_reducible exact H | (rw [hy428]; exact H) | exact H
    have Ny428 := Aside0.mk hy428
    clear hy428
    have H' := Aside0.mk H
    clear H
    have p4 : 0 ≤ (x8_1 : Int) := od
    have q4 : x8_1 < (a0.size : Int) := od
    have hx4 := bt_at a0 x8_1
    replace p4 := eq_true p4
    replace q4 := eq_true q4
    go_wp2_with (first | ((with_reducible refine gate_callee (f := 76) rfl ?_); refine goesL_ (some 19) rfl rfl Tryd.func76 (by kernel_rfl) rfl #[.int .u8 (bt a0 x8_1)] rfl am ?_; (with_reducible refine (carillonref01_kindOf.calls (bt a0 x8_1) t427 _ A5.out).mono ?_); rintro e w' ⟨rfl, ⟨nd, rfl⟩⟩; refine ⟨_, rfl, ?_⟩; have p6 : 0 ≤ (x8_1 : Int) := od; have q6 : x8_1 < (a0.size : Int) := od; have hx6 := bt_at a0 x8_1; replace p6 := eq_true p6; replace q6 := eq_true q6) | ((with_reducible refine gate_builtin (b := .append) (xs := #[.tmp 38, .tmp 40]) rfl ?_); (try (refine gate_guard (by rfl) ?_; dsimp only)); at_builtin; refine Kd.R_append (Kd.int .i64) (w0 := w) w.heap.size rfl (.tmp 38) (.tmp 40) 92 3 (.int .i64 0) 8 rfl Tryd.underlying92 info3 rfl (by decide) (by omega) u6 x6_1 t427 [.int .i64 t427] (fun k_ => some k_ ≠ (u5 : Value).ownBlock) (fun _ => False) rfl rfl ?aP (fun _ hk => hk.elim) ?aF ?aO ?aB ?aS ?aL ?_; (case aP => exact rfl); (case aB => exact bw); (case aF => exact (fun k_ hk => Kd.fresh' (Kd.R_lt (r_ aa.out)) k_ hk)); (case aO => exact (r_ ab.out)); (case aS => exact (below_size bw)); (case aL => have := LMc10.out; omega); intro v429 w11 ho hb hg hat; rw [← Ny428.out] at ho; replace aa := Aside0.mk (Kd.R_after (ok := (fun _ => True)) (by (with_reducible repeat (first | apply Kd.R_alloc | apply Kd.R_drewN | apply Kd.R_drew)); exact Kd.R_mono aa.out (fun _ hk => ⟨trivial, hk⟩)) hg hat); replace HB := Aside0.mk (hb); have HO430 := Aside0.mk (ho); clear ab; clear ho hb hg hat))
    go_roundg k1
    case measure => have := HK1.out; omega
    case rel => exact ⟨(x5_1), (y428), (true), (wrap64 (x8_1 + 1)), (by first | rfl | (simp; done) | (simp [*]; done)), (by first | rfl | (simp; done) | (simp [*]; done)), H', ⟨by have := HK1.out; omega⟩, ⟨by (with_reducible repeat (first | apply Kd.R_alloc | apply Kd.R_drewN | apply Kd.R_drew)); exact Kd.R_mono aa.out (fun _ hk => hk.2)⟩, ⟨r_ HO430.out⟩, ⟨bw⟩⟩
   rw [if_neg c7] at H
   have c7b0 : ((bt a0 x8_1) == 42) = false := beq_eq_false_iff_ne.mpr c7
   have c7b1 : ((bt a0 x8_1) != 42) = true := bne_iff_ne.mpr c7
   by_cases c12 : t427 = 0
   ·rw [if_pos c12] at H
    have c12b0 : (t427 == 0) = true := beq_iff_eq.mpr c12
    have c12b1 : (t427 != 0) = false := bne_eq_false_iff_eq.mpr c12
    clear c12
    simp only [Option.some.injEq, Prod.mk.injEq] at H
    obtain ⟨rfl, rfl, rfl⟩ := H
    have p4 : 0 ≤ (x8_1 : Int) := od
    have q4 : x8_1 < (a0.size : Int) := od
    have hx4 := bt_at a0 x8_1
    replace p4 := eq_true p4
    replace q4 := eq_true q4
    go_wp2_with (first | ((with_reducible refine gate_callee (f := 76) rfl ?_); refine goesL_ (some 19) rfl rfl Tryd.func76 (by kernel_rfl) rfl #[.int .u8 (bt a0 x8_1)] rfl am ?_; (with_reducible refine (carillonref01_kindOf.calls (bt a0 x8_1) t427 _ A5.out).mono ?_); rintro e w' ⟨rfl, ⟨nd, rfl⟩⟩; refine ⟨_, rfl, ?_⟩; have p6 : 0 ≤ (x8_1 : Int) := od; have q6 : x8_1 < (a0.size : Int) := od; have hx6 := bt_at a0 x8_1; replace p6 := eq_true p6; replace q6 := eq_true q6))
    go_ret3
    exact ⟨_, _, er, by first | exact Kd.R_nil _ _ _ _ _ | exact Kd.N_nil _ _ _ _ _ | exact Kd.V_nil _ _ _ _ _ | exact Kd.Q_nil _ _ _ _ _ | exact Kd.S_nil _ _ _ _ _, by first | exact Kd.R_nil _ _ _ _ _ | exact Kd.N_nil _ _ _ _ _ | exact Kd.V_nil _ _ _ _ _ | exact Kd.Q_nil _ _ _ _ _ | exact Kd.S_nil _ _ _ _ _, bw⟩
   rw [if_neg c12] at H
   have c12b0 : (t427 == 0) = false := beq_eq_false_iff_ne.mpr c12
   have c12b1 : (t427 != 0) = true := bne_iff_ne.mpr c12
   by_cases c13 : x7_1 = true
   ·subst c13
    have H1 := H
    rw [if_pos rfl] at H1
    clear H
    have H := H1
    clear H1
    obtain ⟨c14, H⟩ := its H
    have LMc14 := Aside0.mk c14
    clear c14
    obtain ⟨y431, hy431⟩ : ∃ y_ : List Int, y_ = (x6_1 ++ [t427]) := ⟨_, rfl⟩
    replace H : (carillonref01_kinds.l0 k1 a0 x5_1 y431 true (wrap64 (x8_1 + 1))) = some (r1, r2, r3) := by first | (rw [hy431]; with_reducible exact H) | (have H2_ := (Option.bind_some _ _).symm.trans H; rw [hy431]; with_reducible exact H2_) | (have H2_ := (Option.bind_some _ _).symm.trans H; with_reducible exact H2_) | with_reducible exact H | (rw [hy431]; exact H) | exact H
    have Ny431 := Aside0.mk hy431
    clear hy431
    have H' := Aside0.mk H
    clear H
    have p4 : 0 ≤ (x8_1 : Int) := od
    have q4 : x8_1 < (a0.size : Int) := od
    have hx4 := bt_at a0 x8_1
    replace p4 := eq_true p4
    replace q4 := eq_true q4
    go_wp2_with (first | ((with_reducible refine gate_callee (f := 76) rfl ?_); refine goesL_ (some 19) rfl rfl Tryd.func76 (by kernel_rfl) rfl #[.int .u8 (bt a0 x8_1)] rfl am ?_; (with_reducible refine (carillonref01_kindOf.calls (bt a0 x8_1) t427 _ A5.out).mono ?_); rintro e w' ⟨rfl, ⟨nd, rfl⟩⟩; refine ⟨_, rfl, ?_⟩; have p6 : 0 ≤ (x8_1 : Int) := od; have q6 : x8_1 < (a0.size : Int) := od; have hx6 := bt_at a0 x8_1; replace p6 := eq_true p6; replace q6 := eq_true q6) | ((with_reducible refine gate_builtin (b := .append) (xs := #[.tmp 38, .tmp 40]) rfl ?_); (try (refine gate_guard (by rfl) ?_; dsimp only)); at_builtin; refine Kd.R_append (Kd.int .i64) (w0 := w) w.heap.size rfl (.tmp 38) (.tmp 40) 92 3 (.int .i64 0) 8 rfl Tryd.underlying92 info3 rfl (by decide) (by omega) u6 x6_1 t427 [.int .i64 t427] (fun k_ => some k_ ≠ (u5 : Value).ownBlock) (fun _ => False) rfl rfl ?aP (fun _ hk => hk.elim) ?aF ?aO ?aB ?aS ?aL ?_; (case aP => exact rfl); (case aB => exact bw); (case aF => exact (fun k_ hk => Kd.fresh' (Kd.R_lt (r_ aa.out)) k_ hk)); (case aO => exact (r_ ab.out)); (case aS => exact (below_size bw)); (case aL => have := LMc14.out; omega); intro v432 w15 ho hb hg hat; rw [← Ny431.out] at ho; replace aa := Aside0.mk (Kd.R_after (ok := (fun _ => True)) (by (with_reducible repeat (first | apply Kd.R_alloc | apply Kd.R_drewN | apply Kd.R_drew)); exact Kd.R_mono aa.out (fun _ hk => ⟨trivial, hk⟩)) hg hat); replace HB := Aside0.mk (hb); have HO433 := Aside0.mk (ho); clear ab; clear ho hb hg hat))
    go_roundg k1
    case measure => have := HK1.out; omega
    case rel => exact ⟨(x5_1), (y431), (true), (wrap64 (x8_1 + 1)), (by first | rfl | (simp; done) | (simp [*]; done)), (by first | rfl | (simp; done) | (simp [*]; done)), H', ⟨by have := HK1.out; omega⟩, ⟨by (with_reducible repeat (first | apply Kd.R_alloc | apply Kd.R_drewN | apply Kd.R_drew)); exact Kd.R_mono aa.out (fun _ hk => hk.2)⟩, ⟨r_ HO433.out⟩, ⟨bw⟩⟩
   replace c13 := Bool.eq_false_iff.mpr c13
   subst c13
   have H1 : (if x5_1.length < 17592186044416 then (carillonref01_kinds.l0 k1 a0 (x5_1 ++ [t427]) x6_1 false (wrap64 (x8_1 + 1))) else (none)) = some (r1, r2, r3) := by rw [if_neg (show ¬ (false = true) by decide)] at H; exact H
   clear H
   have H := H1
   clear H1
   obtain ⟨c16, H⟩ := its H
   have LMc16 := Aside0.mk c16
   clear c16
   obtain ⟨y434, hy434⟩ : ∃ y_ : List Int, y_ = (x5_1 ++ [t427]) := ⟨_, rfl⟩
   replace H : (carillonref01_kinds.l0 k1 a0 y434 x6_1 false (wrap64 (x8_1 + 1))) = some (r1, r2, r3) := by first | (rw [hy434]; with_reducible exact H) | (have H2_ := (Option.bind_some _ _).symm.trans H; rw [hy434]; with_reducible exact H2_) | (have H2_ := (Option.bind_some _ _).symm.trans H; with_reducible exact H2_) | with_reducible exact H | (rw [hy434]; exact H) | exact H
   have Ny434 := Aside0.mk hy434
   clear hy434
   have H' := Aside0.mk H
   clear H
   have p4 : 0 ≤ (x8_1 : Int) := od
   have q4 : x8_1 < (a0.size : Int) := od
   have hx4 := bt_at a0 x8_1
   replace p4 := eq_true p4
   replace q4 := eq_true q4
   go_wp2_with (first | ((with_reducible refine gate_callee (f := 76) rfl ?_); refine goesL_ (some 19) rfl rfl Tryd.func76 (by kernel_rfl) rfl #[.int .u8 (bt a0 x8_1)] rfl am ?_; (with_reducible refine (carillonref01_kindOf.calls (bt a0 x8_1) t427 _ A5.out).mono ?_); rintro e w' ⟨rfl, ⟨nd, rfl⟩⟩; refine ⟨_, rfl, ?_⟩; have p6 : 0 ≤ (x8_1 : Int) := od; have q6 : x8_1 < (a0.size : Int) := od; have hx6 := bt_at a0 x8_1; replace p6 := eq_true p6; replace q6 := eq_true q6) | ((with_reducible refine gate_builtin (b := .append) (xs := #[.tmp 20, .tmp 22]) rfl ?_); (try (refine gate_guard (by rfl) ?_; dsimp only)); at_builtin; refine Kd.R_append (Kd.int .i64) (w0 := w) w.heap.size rfl (.tmp 20) (.tmp 22) 92 3 (.int .i64 0) 8 rfl Tryd.underlying92 info3 rfl (by decide) (by omega) u5 x5_1 t427 [.int .i64 t427] (fun k_ => some k_ ≠ (u6 : Value).ownBlock) (fun _ => False) rfl rfl ?aP (fun _ hk => hk.elim) ?aF ?aO ?aB ?aS ?aL ?_; (case aP => exact rfl); (case aB => exact bw); (case aF => exact (fun k_ hk => Kd.fresh' (Kd.R_lt (r_ ab.out)) k_ hk)); (case aO => exact (r_ aa.out)); (case aS => exact (below_size bw)); (case aL => have := LMc16.out; omega); intro v435 w17 ho hb hg hat; rw [← Ny434.out] at ho; replace ab := Aside0.mk (Kd.R_after (ok := (fun _ => True)) (by (with_reducible repeat (first | apply Kd.R_alloc | apply Kd.R_drewN | apply Kd.R_drew)); exact Kd.R_mono ab.out (fun _ hk => ⟨trivial, hk⟩)) hg hat); replace HB := Aside0.mk (hb); have HO436 := Aside0.mk (ho); clear aa; clear ho hb hg hat))
   go_roundg k1
   case measure => have := HK1.out; omega
   case rel => exact ⟨(y434), (x6_1), (false), (wrap64 (x8_1 + 1)), (by first | rfl | (simp; done) | (simp [*]; done)), (by first | rfl | (simp; done) | (simp [*]; done)), H', ⟨by have := HK1.out; omega⟩, ⟨r_ HO436.out⟩, ⟨by (with_reducible repeat (first | apply Kd.R_alloc | apply Kd.R_drewN | apply Kd.R_drew)); exact Kd.R_mono ab.out (fun _ hk => hk.2)⟩, ⟨bw⟩⟩

end Go.Proofs.YtpgiagdpepkooaaDoor.P
