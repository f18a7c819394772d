-- Printed by this session's program wip/xp.py (a turned copy of the kit's printer): functions, their contracts.
import Derived.Test.YtpgiagdpepkooaaDoorPx0
namespace Go.Proofs.YtpgiagdpepkooaaDoor.P
open Go.RowKit Go.Proofs.YtpgiagdpepkooaaDoorW.PrintWords Go.Proofs.YtpgiagdpepkooaaDoorW.PrintLast Go.Proofs.YtpgiagdpepkooaaDoorW.PrintMore
attribute [local go_sem] max2_int min2_int max_two min_two max_three min_three max_four min_four   -- for this text's walks alone
set_option linter.unusedVariables false
set_option linter.unusedSimpArgs false

/-! ### segment_Right: function 70 -/
def segment_Right.f (a0_0 : Int) (a0_1 : ByteArray) (a0_2 : Int) (a0_3 : ByteArray) (a0_4 : ByteArray) : Option (Bool) := if (mn a0_0 a0_2) ≥ 0 then (if (mx a0_0 a0_2) ≤ 9007199254740991 then (if (a0_1.size : Int) ≤ 20 then (if (a0_3.size : Int) ≤ 100 then (some (decide ((a0_4.size : Int) ≤ 1000))) else (some false)) else (some false)) else (some false)) else (some false)
set_option maxHeartbeats 8000000 in
set_option maxRecDepth 100000 in
theorem segment_Right.calls (a0_0 : Int) (a0_1 : ByteArray) (a0_2 : Int) (a0_3 : ByteArray) (a0_4 : ByteArray) (r : Bool) (w : World) (h : segment_Right.f a0_0 a0_1 a0_2 a0_3 a0_4 = some r) :
  Calls Tryd.prog 70 #[.agg #[.int .i64 a0_0, .string a0_1, .int .i64 a0_2, .string a0_3, .string a0_4]] w fun e w' => e = .returned (.bool r) ∧ Below w.heap.size w w' := by
 have hu48 := Tryd.underlying48
 have HB := Aside0.mk (Below.refl w.heap.size w)
 have H := h
 unfold segment_Right.f at H
 clear h
 obtain ⟨ji2, hji2⟩ : ∃ j_ : Int, (mn a0_0 a0_2) = j_ := ⟨_, rfl⟩
 replace H : (if (ji2) ≥ 0 then (if (mx a0_0 a0_2) ≤ 9007199254740991 then (if (a0_1.size : Int) ≤ 20 then (if (a0_3.size : Int) ≤ 100 then (some (decide ((a0_4.size : Int) ≤ 1000))) else (some false)) else (some false)) else (some false)) else (some false)) = some r := by first | (rw [hji2] at H; exact H) | (simp only [hji2] at H ⊢; exact H)
 have hji2_ : (if a0_2 < a0_0 then a0_2 else a0_0) = ji2 := hji2
 by_cases c3 : (ji2) ≥ 0; rotate_left
 ·rw [if_neg c3] at H
  have c3b0 : decide (0 ≤ (ji2)) = false := decide_eq_false c3
  clear c3
  obtain rfl := Option.some.inj H
  go_enter Tryd.func70, Tryd.ntmps70
  go_wp2_with (first | ((with_reducible refine gate_dst (N := 1) rfl ?_); (try (refine gate_guard (by rfl) ?_; dsimp only)); refine box_event ?hg (N := 1) ?hd (cs := #[.int .i64 a0_0, .string a0_1, .int .i64 a0_2, .string a0_3, .string a0_4]) (t := 48) ?hr ?_; (case hd => rfl); (case hg => rfl); (case hr => first | (go_simp; done) | (go_simp; rfl)); intro aa hg w16 hbox hb; have ab := Aside0.mk (hbox); have ac := Aside0.mk ((g1 hg bw : w.heap.size ≤ aa)); have ad := Aside0.mk ((g1 hg bw : w.heap.size ≤ aa)); replace HB := Aside0.mk (below_step bw hb); clear hb hbox hg; obtain ⟨hcz17_0, hcz17_1, hcz17_2, hcz17_3, hcz17_4, hfz17_0, hfz17_1, hfz17_2, hfz17_3, hfz17_4⟩ := bx5 ab.out))
  go_ret
  exact ⟨by first | rfl | (simp [errW_none, errW_some] <;> rfl) | (simp only [← hji2]; first | rfl | (simp [errW_none, errW_some] <;> rfl)) | (simp [*, errW_none, errW_some] <;> first | rfl | (generalize ByteArray.toList _ = l_; cases l_ <;> rfl)), bw⟩
 rw [if_pos c3] at H
 have c3b0 : decide (0 ≤ (ji2)) = true := decide_eq_true c3
 clear c3
 obtain ⟨ji4, hji4⟩ : ∃ j_ : Int, (mx a0_0 a0_2) = j_ := ⟨_, rfl⟩
 replace H : (if (ji4) ≤ 9007199254740991 then (if (a0_1.size : Int) ≤ 20 then (if (a0_3.size : Int) ≤ 100 then (some (decide ((a0_4.size : Int) ≤ 1000))) else (some false)) else (some false)) else (some false)) = some r := by first | (rw [hji4] at H; exact H) | (simp only [hji4] at H ⊢; exact H)
 have hji4_ : (if a0_0 < a0_2 then a0_2 else a0_0) = ji4 := hji4
 by_cases c5 : (ji4) ≤ 9007199254740991; rotate_left
 ·rw [if_neg c5] at H
  have c5b0 : decide ((ji4) ≤ 9007199254740991) = false := decide_eq_false c5
  clear c5
  obtain rfl := Option.some.inj H
  go_enter Tryd.func70, Tryd.ntmps70
  go_wp2_with (first | ((with_reducible refine gate_dst (N := 1) rfl ?_); (try (refine gate_guard (by rfl) ?_; dsimp only)); refine box_event ?hg (N := 1) ?hd (cs := #[.int .i64 a0_0, .string a0_1, .int .i64 a0_2, .string a0_3, .string a0_4]) (t := 48) ?hr ?_; (case hd => rfl); (case hg => rfl); (case hr => first | (go_simp; done) | (go_simp; rfl)); intro aa hg w14 hbox hb; have ab := Aside0.mk (hbox); have ac := Aside0.mk ((g1 hg bw : w.heap.size ≤ aa)); have ad := Aside0.mk ((g1 hg bw : w.heap.size ≤ aa)); replace HB := Aside0.mk (below_step bw hb); clear hb hbox hg; obtain ⟨hcz15_0, hcz15_1, hcz15_2, hcz15_3, hcz15_4, hfz15_0, hfz15_1, hfz15_2, hfz15_3, hfz15_4⟩ := bx5 ab.out))
  go_ret
  exact ⟨by first | rfl | (simp [errW_none, errW_some] <;> rfl) | (simp only [← hji2, ← hji4]; first | rfl | (simp [errW_none, errW_some] <;> rfl)) | (simp [*, errW_none, errW_some] <;> rfl), bw⟩
 rw [if_pos c5] at H
 have c5b0 : decide ((ji4) ≤ 9007199254740991) = true := decide_eq_true c5
 clear c5
 by_cases c6 : (a0_1.size : Int) ≤ 20; rotate_left
 ·rw [if_neg c6] at H
  have c6b0 : decide ((a0_1.size : Int) ≤ 20) = false := decide_eq_false c6
  have c6b1 : decide (a0_1.size ≤ 20) = false := decide_eq_false (by omega)
  clear c6
  obtain rfl := Option.some.inj H
  go_enter Tryd.func70, Tryd.ntmps70
  go_wp2_with (first | ((with_reducible refine gate_dst (N := 1) rfl ?_); (try (refine gate_guard (by rfl) ?_; dsimp only)); refine box_event ?hg (N := 1) ?hd (cs := #[.int .i64 a0_0, .string a0_1, .int .i64 a0_2, .string a0_3, .string a0_4]) (t := 48) ?hr ?_; (case hd => rfl); (case hg => rfl); (case hr => first | (go_simp; done) | (go_simp; rfl)); intro aa hg w12 hbox hb; have ab := Aside0.mk (hbox); have ac := Aside0.mk ((g1 hg bw : w.heap.size ≤ aa)); have ad := Aside0.mk ((g1 hg bw : w.heap.size ≤ aa)); replace HB := Aside0.mk (below_step bw hb); clear hb hbox hg; obtain ⟨hcz13_0, hcz13_1, hcz13_2, hcz13_3, hcz13_4, hfz13_0, hfz13_1, hfz13_2, hfz13_3, hfz13_4⟩ := bx5 ab.out))
  go_ret
  exact ⟨by first | rfl | (simp [errW_none, errW_some] <;> rfl) | (simp only [← hji2, ← hji4]; first | rfl | (simp [errW_none, errW_some] <;> rfl)) | (simp [*, errW_none, errW_some] <;> rfl), bw⟩
 rw [if_pos c6] at H
 have c6b0 : decide ((a0_1.size : Int) ≤ 20) = true := decide_eq_true c6
 have c6b1 : decide (a0_1.size ≤ 20) = true := decide_eq_true (by omega)
 clear c6
 by_cases c7 : (a0_3.size : Int) ≤ 100; rotate_left
 ·rw [if_neg c7] at H
  have c7b0 : decide ((a0_3.size : Int) ≤ 100) = false := decide_eq_false c7
  have c7b1 : decide (a0_3.size ≤ 100) = false := decide_eq_false (by omega)
  clear c7
  obtain rfl := Option.some.inj H
  go_enter Tryd.func70, Tryd.ntmps70
  go_wp2_with (first | ((with_reducible refine gate_dst (N := 1) rfl ?_); (try (refine gate_guard (by rfl) ?_; dsimp only)); refine box_event ?hg (N := 1) ?hd (cs := #[.int .i64 a0_0, .string a0_1, .int .i64 a0_2, .string a0_3, .string a0_4]) (t := 48) ?hr ?_; (case hd => rfl); (case hg => rfl); (case hr => first | (go_simp; done) | (go_simp; rfl)); intro aa hg w10 hbox hb; have ab := Aside0.mk (hbox); have ac := Aside0.mk ((g1 hg bw : w.heap.size ≤ aa)); have ad := Aside0.mk ((g1 hg bw : w.heap.size ≤ aa)); replace HB := Aside0.mk (below_step bw hb); clear hb hbox hg; obtain ⟨hcz11_0, hcz11_1, hcz11_2, hcz11_3, hcz11_4, hfz11_0, hfz11_1, hfz11_2, hfz11_3, hfz11_4⟩ := bx5 ab.out))
  go_ret
  exact ⟨by first | rfl | (simp [errW_none, errW_some] <;> rfl) | (simp only [← hji2, ← hji4]; first | rfl | (simp [errW_none, errW_some] <;> rfl)) | (simp [*, errW_none, errW_some] <;> rfl), bw⟩
 rw [if_pos c7] at H
 have c7b0 : decide ((a0_3.size : Int) ≤ 100) = true := decide_eq_true c7
 have c7b1 : decide (a0_3.size ≤ 100) = true := decide_eq_true (by omega)
 clear c7
 obtain rfl := Option.some.inj H
 go_enter Tryd.func70, Tryd.ntmps70
 go_wp2_with (first | ((with_reducible refine gate_dst (N := 1) rfl ?_); (try (refine gate_guard (by rfl) ?_; dsimp only)); refine box_event ?hg (N := 1) ?hd (cs := #[.int .i64 a0_0, .string a0_1, .int .i64 a0_2, .string a0_3, .string a0_4]) (t := 48) ?hr ?_; (case hd => rfl); (case hg => rfl); (case hr => first | (go_simp; done) | (go_simp; rfl)); intro aa hg w8 hbox hb; have ab := Aside0.mk (hbox); have ac := Aside0.mk ((g1 hg bw : w.heap.size ≤ aa)); have ad := Aside0.mk ((g1 hg bw : w.heap.size ≤ aa)); replace HB := Aside0.mk (below_step bw hb); clear hb hbox hg; obtain ⟨hcz9_0, hcz9_1, hcz9_2, hcz9_3, hcz9_4, hfz9_0, hfz9_1, hfz9_2, hfz9_3, hfz9_4⟩ := bx5 ab.out))
 go_ret
 exact ⟨by first | rfl | (simp [errW_none, errW_some] <;> rfl) | (simp only [← hji2, ← hji4]; first | rfl | (simp [errW_none, errW_some] <;> rfl)) | (simp [*, errW_none, errW_some] <;> rfl), bw⟩

/-! ### command_told: function 51 -/
def command_told.l0 : Nat → List (S48) → Int → Int → Int → Int → List (S48) → Option (Bool)
 | 0, _, _, _, _, _, _ => none
 | k + 1, x6, x7, x8, x242000, x242001, x242002 => if x8 < x7 then (if 0 ≤ x8 then (if x8 < (x6.length : Int) then ((segment_Right.f ((rd_T48 x6 x8).f0) ((rd_T48 x6 x8).f1) ((rd_T48 x6 x8).f2) ((rd_T48 x6 x8).f3) ((rd_T48 x6 x8).f4)).bind fun t244 => (if t244 = true then (command_told.l0 k x6 x7 (wrap64 (x8 + 1)) x242000 x242001 x242002) else (some false))) else (none)) else (none)) else (if x242000 ≥ 0 then (if x242000 < 256 then (if x242001 ≥ (-1) then (if x242001 ≤ 9007199254740991 then (some (decide ((x242002.length : Int) ≤ 50))) else (some false)) else (some false)) else (some false)) else (some false))
def command_told.f (k : Nat) (a0_0 : Int) (a0_1 : Int) (l0_2 : List (S48)) : Option (Bool) := command_told.l0 k l0_2 (l0_2.length : Int) 0 a0_0 a0_1 l0_2
set_option maxHeartbeats 8000000 in
set_option maxRecDepth 100000 in
theorem command_told.calls (k : Nat) (a0_0 : Int) (a0_1 : Int) (A0_2 : Option Addr) (c0_2 : Nat) (l0_2 : List (S48)) (r : Bool) (w : World) (hr0_2 : Kd.C k48 w A0_2 l0_2.length l0_2) (hc0_2 : l0_2.length ≤ c0_2) (h : command_told.f k a0_0 a0_1 l0_2 = some r) :
  Calls Tryd.prog 51 #[.agg #[.int .i64 a0_0, .int .i64 a0_1, .slice A0_2 l0_2.length c0_2]] w fun e w' => e = .returned (.bool r) ∧ Below w.heap.size w w' := by
 have hu39 := Tryd.underlying39
 have hu48 := Tryd.underlying48
 have HR0_2 := Aside0.mk hr0_2
 have HC0_2 := Aside0.mk hc0_2
 clear hr0_2 hc0_2
 have HB := Aside0.mk (Below.refl w.heap.size w)
 have H : (command_told.l0 k l0_2 (l0_2.length : Int) 0 a0_0 a0_1 l0_2) = some r := h
 clear h
 have H' := Aside0.mk H
 clear H
 go_enter Tryd.func51, Tryd.ntmps51
 go_wp2_with (first | ((with_reducible refine gate_dst (N := 1) rfl ?_); (try (refine gate_guard (by rfl) ?_; dsimp only)); refine box_event ?hg (N := 1) ?hd (cs := #[.int .i64 a0_0, .int .i64 a0_1, .slice A0_2 l0_2.length c0_2]) (t := 39) ?hr ?_; (case hd => rfl); (case hg => rfl); (case hr => first | (go_simp; done) | (go_simp; rfl)); intro ai hg w2 hbox hb; have aa := Aside0.mk (hbox); have GW241 := Aside0.mk ((g1 hg bw : w.heap.size ≤ ai)); have GE241 := Aside0.mk ((g1 hg bw : w.heap.size ≤ ai)); replace HB := Aside0.mk (below_step bw hb); clear hb hbox hg; obtain ⟨hcz3_0, hcz3_1, hcz3_2, hfz3_0, hfz3_1, hfz3_2⟩ := bx3 aa.out))
 go_loopg [8] k (fun kq v8 w' => ∃ (x8_1 : Int), v8 = .int .i64 x8_1 ∧ Aside0 (command_told.l0 kq l0_2 (l0_2.length : Int) x8_1 a0_0 a0_1 l0_2 = some r) ∧ Aside0 (kq ≤ k) ∧ Aside0 (w'.heap[ai]? = some (.cells #[.int .i64 a0_0, .int .i64 a0_1, (.slice A0_2 l0_2.length c0_2)] 39 (0, 0))) ∧ Aside0 (Below w.heap.size w w'))
 case atStart => exact ⟨(0), (by first | rfl | (simp; done) | (simp [*]; done)), H', ⟨Nat.le_refl _⟩, ⟨by (with_reducible repeat (first | refine blk_drewN ?_ _ | refine blk_drew ?_ | refine blk_alloc ?_ _)); exact aa.out⟩, ⟨bw⟩⟩
 case round =>
  clear H'
  try clear p2
  try clear hcz3_0 hcz3_1 hcz3_2
  try clear hfz3_0 hfz3_1 hfz3_2
  obtain ⟨x8_1, rfl, HA, HK1, aa, HB⟩ := hrel
  cases gk with
  | zero => exact absurd HA.out (by simp [command_told.l0])
  | succ k1 =>
   have H := HA.out
   clear HA
   simp only [command_told.l0] at H
   by_cases c4 : x8_1 < (l0_2.length : Int); rotate_left
   ·rw [if_neg c4] at H
    have c4b0 : decide (x8_1 < (l0_2.length : Int)) = false := decide_eq_false c4
    clear c4
    by_cases c17 : a0_0 ≥ 0; rotate_left
    ·rw [if_neg c17] at H
     have c17b0 : decide (0 ≤ a0_0) = false := decide_eq_false c17
     clear c17
     obtain rfl := Option.some.inj H
     obtain ⟨hcz25_0, hcz25_1, hcz25_2, hfz25_0, hfz25_1, hfz25_2⟩ := bx3 aa.out
     go_wp2
     go_ret
     exact ⟨er, bw⟩
    rw [if_pos c17] at H
    have c17b0 : decide (0 ≤ a0_0) = true := decide_eq_true c17
    clear c17
    by_cases c18 : a0_0 < 256; rotate_left
    ·rw [if_neg c18] at H
     have c18b0 : decide (a0_0 < 256) = false := decide_eq_false c18
     clear c18
     obtain rfl := Option.some.inj H
     obtain ⟨hcz24_0, hcz24_1, hcz24_2, hfz24_0, hfz24_1, hfz24_2⟩ := bx3 aa.out
     go_wp2
     go_ret
     exact ⟨er, bw⟩
    rw [if_pos c18] at H
    have c18b0 : decide (a0_0 < 256) = true := decide_eq_true c18
    clear c18
    by_cases c19 : a0_1 ≥ (-1); rotate_left
    ·rw [if_neg c19] at H
     have c19b0 : decide ((-1) ≤ a0_1) = false := decide_eq_false c19
     clear c19
     obtain rfl := Option.some.inj H
     obtain ⟨hcz23_0, hcz23_1, hcz23_2, hfz23_0, hfz23_1, hfz23_2⟩ := bx3 aa.out
     go_wp2
     go_ret
     exact ⟨er, bw⟩
    rw [if_pos c19] at H
    have c19b0 : decide ((-1) ≤ a0_1) = true := decide_eq_true c19
    clear c19
    by_cases c20 : a0_1 ≤ 9007199254740991; rotate_left
    ·rw [if_neg c20] at H
     have c20b0 : decide (a0_1 ≤ 9007199254740991) = false := decide_eq_false c20
     clear c20
     obtain rfl := Option.some.inj H
     obtain ⟨hcz22_0, hcz22_1, hcz22_2, hfz22_0, hfz22_1, hfz22_2⟩ := bx3 aa.out
     go_wp2
     go_ret
     exact ⟨er, bw⟩
    rw [if_pos c20] at H
    have c20b0 : decide (a0_1 ≤ 9007199254740991) = true := decide_eq_true c20
    clear c20
    obtain rfl := Option.some.inj H
    obtain ⟨hcz21_0, hcz21_1, hcz21_2, hfz21_0, hfz21_1, hfz21_2⟩ := bx3 aa.out
    go_wp2
    go_ret
    exact ⟨er, bw⟩
   rw [if_pos c4] at H
   have c4b0 : decide (x8_1 < (l0_2.length : Int)) = true := decide_eq_true c4
   clear c4
   obtain ⟨c5, H⟩ := its H
   have c5b0 : decide (0 ≤ x8_1) = true := decide_eq_true c5
   clear c5
   obtain ⟨c6, H⟩ := its H
   have c6b0 : decide (x8_1 < (l0_2.length : Int)) = true := decide_eq_true c6
   clear c6
   replace H := Option.bind_eq_some_iff.mp H
   obtain ⟨t244, A70, H⟩ := H
   have A7 := Aside0.mk A70
   clear A70
   by_cases c8 : t244 = true; rotate_left
   ·replace c8 := Bool.eq_false_iff.mpr c8
    subst c8
    have H1 : (some false) = some r := by rw [if_neg (show ¬ (false = true) by decide)] at H; exact H
    clear H
    have H := H1
    clear H1
    obtain rfl := Option.some.inj H
    have p242 : 0 ≤ (x8_1 : Int) := od
    have q242 : x8_1 < (l0_2.length : Int) := od
    obtain ⟨al, e242, ac, ad, ae, af, ag⟩ := at_T48 HR0_2.out x8_1 p242 q242
    cases e242
    replace ac := (HB.out.cell (World.block_lt_of_cell? w _ ac)).trans ac
    replace ad := (HB.out.cell (World.block_lt_of_cell? w _ ad)).trans ad
    replace ae := (HB.out.cell (World.block_lt_of_cell? w _ ae)).trans ae
    replace af := (HB.out.cell (World.block_lt_of_cell? w _ af)).trans af
    replace ag := (HB.out.cell (World.block_lt_of_cell? w _ ag)).trans ag
    replace p242 := eq_true p242
    replace q242 := eq_true q242
    go_wp2_with (first | ((with_reducible refine gate_dst (N := 4) rfl ?_); (try (refine gate_guard (by rfl) ?_; dsimp only)); refine box_event ?hg (N := 4) ?hd (cs := za0_) (t := 48) ?hr ?_; (case hd => rfl); (case hg => rfl); (case hr => first | (go_simp; done) | (go_simp; rfl)); intro ah hg w13 hbox hb; have aj := Aside0.mk (hbox); have GW243 := Aside0.mk ((g1 hg bw : w.heap.size ≤ ah)); have GE243 := Aside0.mk ((g1 hg bw : w.heap.size ≤ ah)); replace HB := Aside0.mk (below_step bw hb); have ab := Aside0.mk ((n1 hg aa.out : ai ≠ ah)); have ak := Aside0.mk ((n2 hg aa.out : ah ≠ ai)); replace aa := Aside0.mk (nb aa.out hb); clear hb hbox hg; have hnb14 := ak.out; have hnc14 := ab.out; obtain ⟨hcz15_0, hcz15_1, hcz15_2, hcz15_3, hcz15_4, hfz15_0, hfz15_1, hfz15_2, hfz15_3, hfz15_4⟩ := bx5 aj.out) | ((with_reducible refine gate_callee (f := 70) rfl ?_); refine goesL_ (some 13) rfl rfl Tryd.func70 (by kernel_rfl) rfl #[.agg #[.int .i64 ((rd_T48 l0_2 x8_1).f0), .string ((rd_T48 l0_2 x8_1).f1), .int .i64 ((rd_T48 l0_2 x8_1).f2), .string ((rd_T48 l0_2 x8_1).f3), .string ((rd_T48 l0_2 x8_1).f4)]] rfl am ?_; (with_reducible refine (segment_Right.calls ((rd_T48 l0_2 x8_1).f0) ((rd_T48 l0_2 x8_1).f1) ((rd_T48 l0_2 x8_1).f2) ((rd_T48 l0_2 x8_1).f3) ((rd_T48 l0_2 x8_1).f4) false _ A7.out).mono ?_); rintro e w16 ⟨rfl, hb⟩; refine ⟨_, rfl, ?_⟩; replace aa := Aside0.mk (blk_below (g := ai) (o := .cells #[.int .i64 a0_0, .int .i64 a0_1, .slice (some al) l0_2.length c0_2] 39 (0, 0)) (by (with_reducible repeat (first | refine blk_drewN ?_ _ | refine blk_drew ?_ | refine blk_alloc ?_ _ | refine blk_far ?_ ab.out _)); exact aa.out) hb); replace aj := Aside0.mk (blk_below (g := ah) (o := .cells #[.int .i64 ((rd_T48 l0_2 x8_1).f0), .string ((rd_T48 l0_2 x8_1).f1), .int .i64 ((rd_T48 l0_2 x8_1).f2), .string ((rd_T48 l0_2 x8_1).f3), .string ((rd_T48 l0_2 x8_1).f4)] 48 (0, 0)) (by (with_reducible repeat (first | refine blk_drewN ?_ _ | refine blk_drew ?_ | refine blk_alloc ?_ _)); refine blk_put (cs := #[.int .i64 ((rd_T48 l0_2 x8_1).f0), .string ((rd_T48 l0_2 x8_1).f1), .int .i64 ((rd_T48 l0_2 x8_1).f2), .string ((rd_T48 l0_2 x8_1).f3), .string (⟨#[]⟩ : ByteArray)]) ?_ 4 _ rfl; (with_reducible repeat (first | refine blk_drewN ?_ _ | refine blk_drew ?_ | refine blk_alloc ?_ _)); refine blk_put (cs := #[.int .i64 ((rd_T48 l0_2 x8_1).f0), .string ((rd_T48 l0_2 x8_1).f1), .int .i64 ((rd_T48 l0_2 x8_1).f2), .string (⟨#[]⟩ : ByteArray), .string (⟨#[]⟩ : ByteArray)]) ?_ 3 _ rfl; (with_reducible repeat (first | refine blk_drewN ?_ _ | refine blk_drew ?_ | refine blk_alloc ?_ _)); refine blk_put (cs := #[.int .i64 ((rd_T48 l0_2 x8_1).f0), .string ((rd_T48 l0_2 x8_1).f1), .int .i64 0, .string (⟨#[]⟩ : ByteArray), .string (⟨#[]⟩ : ByteArray)]) ?_ 2 _ rfl; (with_reducible repeat (first | refine blk_drewN ?_ _ | refine blk_drew ?_ | refine blk_alloc ?_ _)); refine blk_put (cs := #[.int .i64 ((rd_T48 l0_2 x8_1).f0), .string (⟨#[]⟩ : ByteArray), .int .i64 0, .string (⟨#[]⟩ : ByteArray), .string (⟨#[]⟩ : ByteArray)]) ?_ 1 _ rfl; (with_reducible repeat (first | refine blk_drewN ?_ _ | refine blk_drew ?_ | refine blk_alloc ?_ _)); refine blk_put (cs := za0_) ?_ 0 _ rfl; (with_reducible repeat (first | refine blk_drewN ?_ _ | refine blk_drew ?_ | refine blk_alloc ?_ _)); exact aj.out) hb); replace HB := Aside0.mk (below_step bw hb); (try clear hb)))
    go_ret
    exact ⟨er, bw⟩
   subst c8
   have H1 : (command_told.l0 k1 l0_2 (l0_2.length : Int) (wrap64 (x8_1 + 1)) a0_0 a0_1 l0_2) = some r := by rw [if_pos rfl] at H; exact H
   clear H
   have H := H1
   clear H1
   have H' := Aside0.mk H
   clear H
   have p242 : 0 ≤ (x8_1 : Int) := od
   have q242 : x8_1 < (l0_2.length : Int) := od
   obtain ⟨al, e242, ac, ad, ae, af, ag⟩ := at_T48 HR0_2.out x8_1 p242 q242
   cases e242
   replace ac := (HB.out.cell (World.block_lt_of_cell? w _ ac)).trans ac
   replace ad := (HB.out.cell (World.block_lt_of_cell? w _ ad)).trans ad
   replace ae := (HB.out.cell (World.block_lt_of_cell? w _ ae)).trans ae
   replace af := (HB.out.cell (World.block_lt_of_cell? w _ af)).trans af
   replace ag := (HB.out.cell (World.block_lt_of_cell? w _ ag)).trans ag
   replace p242 := eq_true p242
   replace q242 := eq_true q242
   go_wp2_with (first | ((with_reducible refine gate_dst (N := 4) rfl ?_); (try (refine gate_guard (by rfl) ?_; dsimp only)); refine box_event ?hg (N := 4) ?hd (cs := za0_) (t := 48) ?hr ?_; (case hd => rfl); (case hg => rfl); (case hr => first | (go_simp; done) | (go_simp; rfl)); intro ah hg w9 hbox hb; have aj := Aside0.mk (hbox); have GW243 := Aside0.mk ((g1 hg bw : w.heap.size ≤ ah)); have GE243 := Aside0.mk ((g1 hg bw : w.heap.size ≤ ah)); replace HB := Aside0.mk (below_step bw hb); have ab := Aside0.mk ((n1 hg aa.out : ai ≠ ah)); have ak := Aside0.mk ((n2 hg aa.out : ah ≠ ai)); replace aa := Aside0.mk (nb aa.out hb); clear hb hbox hg; have hnb10 := ak.out; have hnc10 := ab.out; obtain ⟨hcz11_0, hcz11_1, hcz11_2, hcz11_3, hcz11_4, hfz11_0, hfz11_1, hfz11_2, hfz11_3, hfz11_4⟩ := bx5 aj.out) | ((with_reducible refine gate_callee (f := 70) rfl ?_); refine goesL_ (some 13) rfl rfl Tryd.func70 (by kernel_rfl) rfl #[.agg #[.int .i64 ((rd_T48 l0_2 x8_1).f0), .string ((rd_T48 l0_2 x8_1).f1), .int .i64 ((rd_T48 l0_2 x8_1).f2), .string ((rd_T48 l0_2 x8_1).f3), .string ((rd_T48 l0_2 x8_1).f4)]] rfl am ?_; (with_reducible refine (segment_Right.calls ((rd_T48 l0_2 x8_1).f0) ((rd_T48 l0_2 x8_1).f1) ((rd_T48 l0_2 x8_1).f2) ((rd_T48 l0_2 x8_1).f3) ((rd_T48 l0_2 x8_1).f4) true _ A7.out).mono ?_); rintro e w12 ⟨rfl, hb⟩; refine ⟨_, rfl, ?_⟩; replace aa := Aside0.mk (blk_below (g := ai) (o := .cells #[.int .i64 a0_0, .int .i64 a0_1, .slice (some al) l0_2.length c0_2] 39 (0, 0)) (by (with_reducible repeat (first | refine blk_drewN ?_ _ | refine blk_drew ?_ | refine blk_alloc ?_ _ | refine blk_far ?_ ab.out _)); exact aa.out) hb); replace aj := Aside0.mk (blk_below (g := ah) (o := .cells #[.int .i64 ((rd_T48 l0_2 x8_1).f0), .string ((rd_T48 l0_2 x8_1).f1), .int .i64 ((rd_T48 l0_2 x8_1).f2), .string ((rd_T48 l0_2 x8_1).f3), .string ((rd_T48 l0_2 x8_1).f4)] 48 (0, 0)) (by (with_reducible repeat (first | refine blk_drewN ?_ _ | refine blk_drew ?_ | refine blk_alloc ?_ _)); refine blk_put (cs := #[.int .i64 ((rd_T48 l0_2 x8_1).f0), .string ((rd_T48 l0_2 x8_1).f1), .int .i64 ((rd_T48 l0_2 x8_1).f2), .string ((rd_T48 l0_2 x8_1).f3), .string (⟨#[]⟩ : ByteArray)]) ?_ 4 _ rfl; (with_reducible repeat (first | refine blk_drewN ?_ _ | refine blk_drew ?_ | refine blk_alloc ?_ _)); refine blk_put (cs := #[.int .i64 ((rd_T48 l0_2 x8_1).f0), .string ((rd_T48 l0_2 x8_1).f1), .int .i64 ((rd_T48 l0_2 x8_1).f2), .string (⟨#[]⟩ : ByteArray), .string (⟨#[]⟩ : ByteArray)]) ?_ 3 _ rfl; (with_reducible repeat (first | refine blk_drewN ?_ _ | refine blk_drew ?_ | refine blk_alloc ?_ _)); refine blk_put (cs := #[.int .i64 ((rd_T48 l0_2 x8_1).f0), .string ((rd_T48 l0_2 x8_1).f1), .int .i64 0, .string (⟨#[]⟩ : ByteArray), .string (⟨#[]⟩ : ByteArray)]) ?_ 2 _ rfl; (with_reducible repeat (first | refine blk_drewN ?_ _ | refine blk_drew ?_ | refine blk_alloc ?_ _)); refine blk_put (cs := #[.int .i64 ((rd_T48 l0_2 x8_1).f0), .string (⟨#[]⟩ : ByteArray), .int .i64 0, .string (⟨#[]⟩ : ByteArray), .string (⟨#[]⟩ : ByteArray)]) ?_ 1 _ rfl; (with_reducible repeat (first | refine blk_drewN ?_ _ | refine blk_drew ?_ | refine blk_alloc ?_ _)); refine blk_put (cs := za0_) ?_ 0 _ rfl; (with_reducible repeat (first | refine blk_drewN ?_ _ | refine blk_drew ?_ | refine blk_alloc ?_ _)); exact aj.out) hb); replace HB := Aside0.mk (below_step bw hb); (try clear hb)))
   go_roundg k1
   case measure => have := HK1.out; omega
   case rel => exact ⟨(wrap64 (x8_1 + 1)), (by first | rfl | (simp; done) | (simp [*]; done)), H', ⟨by have := HK1.out; omega⟩, ⟨by (with_reducible repeat (first | refine blk_drewN ?_ _ | refine blk_drew ?_ | refine blk_alloc ?_ _)); exact aa.out⟩, ⟨bw⟩⟩

end Go.Proofs.YtpgiagdpepkooaaDoor.P
