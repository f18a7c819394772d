-- Printed by this session's program wip/xp.py (a turned copy of the kit's printer): functions, their contracts.
import Derived.Test.YtokebimfflobbaaDoorPx0
import Derived.Test.YtokebimfflobbaaDoorPx3
import Derived.Test.YtokebimfflobbaaDoorPx6
namespace Go.Proofs.YtokebimfflobbaaDoor.P
open Go.RowKit Go.Proofs.YtokebimfflobbaaDoorW.PrintWords Go.Proofs.YtokebimfflobbaaDoorW.PrintLast Go.Proofs.YtokebimfflobbaaDoorW.PrintMore
attribute [local go_sem] max2_int min2_int max_two min_two max_three min_three max_four min_four   -- for this text's walks alone
set_option linter.unusedVariables false
set_option linter.unusedSimpArgs false

/-! ### api_Item_31: function 31 -/
def grt (x : S58) : Bool := decide (9007199254740991 < x.f1)
set_option maxHeartbeats 4000000 in
set_option maxRecDepth 100000 in
theorem grt_calls (x : S58) (w : World) : Calls Tryd.prog 32 #[.agg #[.int .i64 x.f0, .int .u64 x.f1, .string x.f2]] w fun e w' => e = .returned (.bool (grt x)) ∧ Below w.heap.size w w' := by
 have HB := Aside0.mk (Below.refl w.heap.size w)
 unfold grt
 go_enter Tryd.func32, Tryd.ntmps32
 go_wp2
 go_ret
 exact ⟨rfl, bw⟩
theorem idxItem (A0 : Option Addr) (c0 : Nat) (l0 : List (S58)) (w : World) (hr0 : Kd.C k58 w A0 l0.length l0) (hn : l0.length < 4611686018427387904) :
  Calls Tryd.prog 36 #[.slice A0 l0.length c0, .func (.func 32) #[] #[]] w fun e w' => ∃ r : Int, e = .returned (.int .i64 r) ∧ decide (0 ≤ r) = l0.any grt ∧ Below w.heap.size w w' := by
 have HR0 := Aside0.mk hr0
 have HN := Aside0.mk hn
 clear hr0 hn
 go_enter Tryd.func36, Tryd.ntmps36
 go_wp2
 go_loopg [4, 8] (l0.length + 1) (fun kq v4 v8 w' => ∃ (n : Nat), v8 = .int .i64 (n : Int) ∧ n ≤ l0.length ∧ kq + n = l0.length + 1 ∧ Aside0 (∀ x ∈ l0.take n, grt x = false) ∧ Aside0 (Below w.heap.size w w'))
 case atStart => exact ⟨0, rfl, Nat.zero_le _, by omega, ⟨by simp⟩, ⟨Below.refl _ _⟩⟩
 case round =>
  obtain ⟨n, rfl, hnl, hkq, HA, HB⟩ := hrel
  cases gk with
  | zero => exact absurd hkq (by omega)
  | succ k1 =>
   have hn := HN.out
   by_cases hlt : n < l0.length
   ·have c3b0 : decide ((n : Int) < (l0.length : Int)) = true := decide_eq_true (by omega)
    have c3b1 : decide (n < l0.length) = true := decide_eq_true hlt
    obtain ⟨ad, e0, hx0, hx1, hx2⟩ := at_T58 HR0.out (n : Int) (by omega) (by omega)
    cases e0
    rw [show (n : Int).toNat = n from rfl] at hx0 hx1 hx2
    replace hx0 := (HB.out.cell (World.block_lt_of_cell? w _ hx0)).trans hx0
    replace hx1 := (HB.out.cell (World.block_lt_of_cell? w _ hx1)).trans hx1
    replace hx2 := (HB.out.cell (World.block_lt_of_cell? w _ hx2)).trans hx2
    have p127 := eq_true (show (0 : Int) ≤ (n : Int) by omega)
    have q127 := eq_true (show (n : Int) < (l0.length : Int) by omega)
    have HX : Aside0 (l0.take (n + 1) = l0.take n ++ [rd_T58 l0 (n : Int)]) := ⟨by
     rw [List.take_succ_eq_append_getElem hlt]
     simp [rd_T58, List.getD_eq_getElem?_getD, List.getElem?_eq_getElem hlt]⟩
    generalize rd_T58 l0 (n : Int) = x at hx0 hx1 hx2 HX
    have ew : ((n : Int) + 1 + 9223372036854775808) % 18446744073709551616 - 9223372036854775808 = ((n + 1 : Nat) : Int) := by omega
    go_wp2_with (go_at_call 32; refine (grt_calls x _).mono ?_)
    rintro e w9 ⟨rfl, hb9⟩
    have HB9 := Aside0.mk (show Below w.heap.size w w9 from HB.out.trans (hb9.mono HB.out.size))
    clear hb9
    by_cases hg : grt x = true
    ·have HE : Aside0 (l0.any grt = true) := ⟨by
      rw [List.any_eq_true]
      exact ⟨x, List.mem_of_mem_take (i := n + 1) (by rw [HX.out]; simp), hg⟩⟩
     rw [hg]
     go_wp2
     go_ret
     exact ⟨(n : Int), rfl, by rw [HE.out]; exact decide_eq_true (by omega), HB9.out⟩
    ·have hg2 : grt x = false := by simpa using hg
     have HA2 : Aside0 (∀ y ∈ l0.take (n + 1), grt y = false) := ⟨by
      rw [HX.out]
      intro y hy
      rcases List.mem_append.1 hy with hy | hy
      ·exact HA.out y hy
      ·obtain rfl := List.mem_singleton.1 hy; exact hg2⟩
     rw [hg2]
     clear hg
     go_wp2
     go_roundg k1
     case rel => exact ⟨n + 1, by go_num, by omega, by omega, HA2, HB9⟩
     case measure => exact Nat.lt_succ_self _
   ·obtain rfl : n = l0.length := by omega
    have c3b0 : decide ((l0.length : Int) < (l0.length : Int)) = false := decide_eq_false (by omega)
    have HE : Aside0 (l0.any grt = false) := ⟨by
     rw [List.any_eq_false]
     intro x hx
     have := HA.out x (by rwa [List.take_length])
     simp [this]⟩
    go_wp2
    go_ret
    exact ⟨-1, rfl, by rw [HE.out]; decide, HB.out⟩
def api_Item_31.f (l0 : List (S58)) (F : Value) : Option Bool := match F with
 | .func (.func n) ⟨[]⟩ ⟨[]⟩ => if n = 32 ∧ l0.length < 4611686018427387904 then some (l0.any grt) else none
 | _ => none
set_option maxHeartbeats 4000000 in
set_option maxRecDepth 100000 in
theorem api_Item_31.calls (A0 : Option Addr) (c0 : Nat) (l0 : List (S58)) (F : Value) (r1 : Bool) (w : World) (hr0 : Kd.C k58 w A0 l0.length l0) (hc0 : l0.length ≤ c0) (h : api_Item_31.f l0 F = some r1) :
  Calls Tryd.prog 31 #[.slice A0 l0.length c0, F] w fun e w' => e = .returned (.bool r1) ∧ Below w.heap.size w w' := by
 unfold api_Item_31.f at h
 split at h
 case h_2 => exact absurd h (by simp)
 rename_i n
 by_cases g : n = 32 ∧ l0.length < 4611686018427387904
 case neg => rw [if_neg g] at h; exact absurd h (by simp)
 rw [if_pos g] at h
 obtain ⟨rfl, hn⟩ := g
 obtain rfl := Option.some.inj h
 clear h
 have HI := Aside0.mk (idxItem A0 c0 l0 w hr0 hn)
 clear hr0 hn
 go_enter Tryd.func31, Tryd.ntmps31
 go_wp2_with (go_at_call 36; refine (HI.out).mono ?_)
 rintro e w1 ⟨r, rfl, hr, hb⟩
 have HB := Aside0.mk hb
 clear hb
 have HR := Aside0.mk hr
 clear hr
 go_wp2
 go_ret
 exact ⟨congrArg (fun b => Ending.returned (.bool b)) HR.out, HB.out⟩

/-! ### view_Decode: function 24 -/
def view_Decode.l0 : Nat → List (S58) → Int → Int → List (S47) → Option (Int × (List (S47)) × Int)
 | 0, _, _, _, _ => none
 | k + 1, x4, x7, x208000, x208001 => if x7 < (x4.length : Int) then (if 0 ≤ x7 then (if 0 ≤ (wrap64 (x7 + 1)) then (if (wrap64 (x7 + 1)) < (x4.length : Int) then (if x208001.length < 8796093022208 then (view_Decode.l0 k x4 (wrap64 (x7 + 2)) x208000 (x208001 ++ [(⟨wrap64 ((rd_T58 x4 x7).f1), wrap64 ((rd_T58 x4 (wrap64 (x7 + 1))).f1)⟩ : S47)])) else (none)) else (none)) else (none)) else (none)) else ((view_Right.f k x208000 x208001).bind fun t213 => (if t213 = true then (some (x208000, x208001, 0)) else (some (0, ([] : List (S47)), 10))))
def view_Decode.f (k : Nat) (a0 : ByteArray) : Option (Int × (List (S47)) × Int) := (codec_Decode.f k (⟨#[108, 42, 98, 108]⟩ : ByteArray) a0).bind fun bt201 => (if bt201.2 = 0 then ((api_Item_31.f bt201.1 (.func (.func 32) #[] #[] : Value)).bind fun t205 => (if t205 = true then (some (0, ([] : List (S47)), 10)) else (if 0 < (bt201.1.length : Int) then (view_Decode.l0 k bt201.1 1 (wrap64 ((rd_T58 bt201.1 0).f1)) ([] : List (S47))) else (none)))) else (some (0, ([] : List (S47)), bt201.2)))
theorem view_Decode.mono_l : ∀ k, (∀ y0 y1 y2 y3, LeO (view_Decode.l0 k y0 y1 y2 y3) (view_Decode.l0 (k + 1) y0 y1 y2 y3))
 | 0 => fun _ _ _ _ r h => by simp [view_Decode.l0] at h
 | k + 1 => by
  have ih0 := view_Decode.mono_l k
  ·intro y0 y1 y2 y3
   unfold view_Decode.l0
   repeat' first
   | (with_reducible exact ih0 _ _ _ _)
   | (with_reducible exact codec_Decode.mono _ _ _)
   | (with_reducible exact view_Right.mono _ _ _)
   | (with_reducible exact LeO.refl _)
   | (with_reducible exact LeO.none _)
   | (with_reducible refine LeO.ite ?_ ?_)
   | (with_reducible refine LeO.bind ?_ (fun _ => ?_))
   | exact ih0 _ _ _ _
   | exact codec_Decode.mono _ _ _
   | exact view_Right.mono _ _ _
   | exact LeO.none _
   | refine LeO.ite ?_ ?_
   | refine LeO.bind ?_ (fun _ => ?_)
theorem view_Decode.mono : ∀ a0 k, LeO (view_Decode.f k a0) (view_Decode.f (k + 1) a0) := by
 intro a0 k
 have ih0 := view_Decode.mono_l k
 unfold view_Decode.f
 repeat' first
   | (with_reducible exact ih0 _ _ _ _)
   | (with_reducible exact codec_Decode.mono _ _ _)
   | (with_reducible exact view_Right.mono _ _ _)
   | (with_reducible exact LeO.refl _)
   | (with_reducible exact LeO.none _)
   | (with_reducible refine LeO.ite ?_ ?_)
   | (with_reducible refine LeO.bind ?_ (fun _ => ?_))
   | exact ih0 _ _ _ _
   | exact codec_Decode.mono _ _ _
   | exact view_Right.mono _ _ _
   | exact LeO.none _
   | refine LeO.ite ?_ ?_
   | refine LeO.bind ?_ (fun _ => ?_)
def view_Decode.T10 : Bool × List (List Nat × List Nat) := (true, [([], []), ([0], [0]), ([], []), ([], []), ([2, 3], [2, 3]), ([4], [4]), ([5], [5]), ([6], [6]), ([], []), ([], []), ([9], [9]), ([8, 10], [8, 10]), ([11], [11]), ([12], [12]), ([13], [13]), ([7, 14], [7, 14]), ([15], [15]), ([1, 16], [1, 16]), ([0, 1, 2, 3, 4, 5, 6, 7, 8, 9, 10, 11, 12, 13, 14, 15, 16, 17], []), ([18, 17, 17, 0, 1, 2, 3, 4, 5, 6, 7, 8, 9, 10, 11, 12, 13, 14, 15, 16, 17], [17, 18])])
def view_Decode.B10 : List Nat := [0, 1, 0, 0, 12, 28, 60, 124, 0, 0, 512, 1792, 3840, 7936, 16128, 32764, 65532, 131071, 262143, 524287]
theorem view_Decode.tab10 : rtab .any (opsOf Tryd.f24 10) = view_Decode.T10 := by kernel_rfl
theorem view_Decode.bits10 : waitsOk view_Decode.T10.2 view_Decode.B10 = true := by kernel_rfl
set_option maxHeartbeats 8000000 in
set_option maxRecDepth 100000 in
theorem view_Decode.calls (k : Nat) (a0 : ByteArray) (r1 : Int) (r2 : List (S47)) (r3 : Int) (w : World) (HT_ : TabOk w) (h : view_Decode.f k a0 = some (r1, r2, r3)) :
  Calls Tryd.prog 24 #[.string a0] w fun e w' => ∃ v1_ : Value, e = .returned (.tuple #[.agg #[.int .i64 r1, v1_], .int .i64 r3]) ∧ Kd.R k47 47 w' w.heap.size (fun _ => True) v1_ r2 ∧ Below w.heap.size w w' := by
 have HT := Aside0.mk HT_
 clear HT_
 have hu35 := Tryd.underlying35
 have hu47 := Tryd.underlying47
 have HB := Aside0.mk (Below.refl w.heap.size w)
 have H : ((codec_Decode.f k (⟨#[108, 42, 98, 108]⟩ : ByteArray) a0).bind fun bt201 => (if bt201.2 = 0 then ((api_Item_31.f bt201.1 (.func (.func 32) #[] #[] : Value)).bind fun t205 => (if t205 = true then (some (0, ([] : List (S47)), 10)) else (if 0 < (bt201.1.length : Int) then (view_Decode.l0 k bt201.1 1 (wrap64 ((rd_T58 bt201.1 0).f1)) ([] : List (S47))) else (none)))) else (some (0, ([] : List (S47)), bt201.2)))) = some (r1, r2, r3) := h
 clear h
 replace H := Option.bind_eq_some_iff.mp H
 obtain ⟨⟨t201, t202⟩, A20, H⟩ := H
 replace H : (if t202 = 0 then ((api_Item_31.f t201 (.func (.func 32) #[] #[] : Value)).bind fun t205 => (if t205 = true then (some (0, ([] : List (S47)), 10)) else (if 0 < (t201.length : Int) then (view_Decode.l0 k t201 1 (wrap64 ((rd_T58 t201 0).f1)) ([] : List (S47))) else (none)))) else (some (0, ([] : List (S47)), t202))) = some (r1, r2, r3) := H
 have A2 := Aside0.mk A20
 clear A20
 by_cases c3 : t202 = 0; rotate_left
 ·rw [if_neg c3] at H
  have a4 : (t202 == 0) = false := beq_eq_false_iff_ne.mpr c3
  have a5 : (t202 != 0) = true := bne_iff_ne.mpr c3
  simp only [Option.some.injEq, Prod.mk.injEq] at H
  obtain ⟨rfl, rfl, rfl⟩ := H
  go_enter Tryd.func24, Tryd.ntmps24
  go_wp2_with (first | ((with_reducible refine gate_dst (N := 2) rfl ?_); refine box_event ?hg (N := 2) ?hd (cs := #[.int .i64 0, .slice none 0 0]) (t := 35) ?hr ?_; (case hd => rfl); (case hg => rfl); (case hr => first | (go_simp; done) | (go_simp; rfl)); intro ae hg w42 hbox hb; have n0_ := Aside0.mk (below_step bw hb); have n1_ := Aside0.mk (hbox); have n2_ := Aside0.mk ((g1 hg bw : w.heap.size ≤ ae)); have n3_ := Aside0.mk ((g1 hg bw : w.heap.size ≤ ae)); clear HB; have HB := n0_; have ab := n1_; have aw := n2_; have ax := n3_; clear n0_ n1_ n2_ n3_; clear hb hbox hg) | ((with_reducible refine gate_callee (f := 23) rfl ?_); refine goesL_ (some 10) rfl rfl Tryd.func23 (by kernel_rfl) rfl #[.string (⟨#[108, 42, 98, 108]⟩ : ByteArray), .string a0] rfl am ?_; (with_reducible refine (codec_Decode.calls k (⟨#[108, 42, 98, 108]⟩ : ByteArray) a0 t201 t202 _ tbk A2.out).mono ?_); rintro e w43 ⟨v203, rfl, ho0, hb⟩; refine ⟨_, rfl, ?_⟩; have n0_ := Aside0.mk (Kd.R_lower ho0 (below_size bw)); have n1_ := Aside0.mk (nb ab.out hb); have n2_ := Aside0.mk (below_step bw hb); clear ab; clear HB; have ad := n0_; have ab := n1_; have HB := n2_; clear n0_ n1_ n2_; (try clear hb); (try clear ho0); obtain ⟨hcz44_0, hcz44_1, hfz44_0, hfz44_1⟩ := bx2 ab.out))
  refine bodyPost_ret (results_ct rfl _ _ ae 35 #[.int .i64 0, .slice none 0 0] (0, 0) _ rfl (by (with_reducible repeat (first | refine blk_drewN ?_ _ | refine blk_drew ?_ | refine blk_alloc ?_ _)); refine blk_put (cs := #[.int .i64 0, .slice none 0 0]) ?_ 1 _ rfl; (with_reducible repeat (first | refine blk_drewN ?_ _ | refine blk_drew ?_ | refine blk_alloc ?_ _)); refine blk_put (cs := #[.int .i64 0, .slice none 0 0]) ?_ 0 _ rfl; (with_reducible repeat (first | refine blk_drewN ?_ _ | refine blk_drew ?_ | refine blk_alloc ?_ _)); exact ab.out) Tryd.underlying35 rfl (by kernel_rfl)) rfl ?_
  exact ⟨_, er, by first | exact Kd.R_nil _ _ _ _ _ | exact Kd.N_nil _ _ _ _ _ | exact Kd.V_nil _ _ _ _ _ | exact Kd.Q_nil _ _ _ _ _ | exact Kd.S_nil _ _ _ _ _, bw⟩
 rw [if_pos c3] at H
 have a4 : (t202 == 0) = true := beq_iff_eq.mpr c3
 have a5 : (t202 != 0) = false := bne_eq_false_iff_eq.mpr c3
 clear c3
 replace H := Option.bind_eq_some_iff.mp H
 obtain ⟨t205, A40, H⟩ := H
 replace H : (if t205 = true then (some (0, ([] : List (S47)), 10)) else (if 0 < (t201.length : Int) then (view_Decode.l0 k t201 1 (wrap64 ((rd_T58 t201 0).f1)) ([] : List (S47))) else (none))) = some (r1, r2, r3) := H
 have A4 := Aside0.mk A40
 clear A40
 by_cases c5 : t205 = true
 ·subst c5
  have H1 : (some (0, ([] : List (S47)), 10)) = some (r1, r2, r3) := by rw [if_pos rfl] at H; exact H
  clear H
  have H := H1
  clear H1
  simp only [Option.some.injEq, Prod.mk.injEq] at H
  obtain ⟨rfl, rfl, rfl⟩ := H
  go_enter Tryd.func24, Tryd.ntmps24
  go_wp2_with (first | ((with_reducible refine gate_dst (N := 2) rfl ?_); refine box_event ?hg (N := 2) ?hd (cs := #[.int .i64 0, .slice none 0 0]) (t := 35) ?hr ?_; (case hd => rfl); (case hg => rfl); (case hr => first | (go_simp; done) | (go_simp; rfl)); intro ae hg w6 hbox hb; have n0_ := Aside0.mk (below_step bw hb); have n1_ := Aside0.mk (hbox); have n2_ := Aside0.mk ((g1 hg bw : w.heap.size ≤ ae)); have n3_ := Aside0.mk ((g1 hg bw : w.heap.size ≤ ae)); clear HB; have HB := n0_; have ab := n1_; have aw := n2_; have ax := n3_; clear n0_ n1_ n2_ n3_; clear hb hbox hg) | ((with_reducible refine gate_callee (f := 23) rfl ?_); refine goesL_ (some 10) rfl rfl Tryd.func23 (by kernel_rfl) rfl #[.string (⟨#[108, 42, 98, 108]⟩ : ByteArray), .string a0] rfl am ?_; (with_reducible refine (codec_Decode.calls k (⟨#[108, 42, 98, 108]⟩ : ByteArray) a0 t201 t202 _ tbk A2.out).mono ?_); rintro e w7 ⟨v203, rfl, ho0, hb⟩; refine ⟨_, rfl, ?_⟩; have n0_ := Aside0.mk (Kd.R_lower ho0 (below_size bw)); have n1_ := Aside0.mk (nb ab.out hb); have n2_ := Aside0.mk (below_step bw hb); clear ab; clear HB; have ad := n0_; have ab := n1_; have HB := n2_; clear n0_ n1_ n2_; (try clear hb); (try clear ho0); obtain ⟨Ao8, co8, eo8⟩ := Kd.R_slice ad.out; subst eo8) | ((with_reducible refine gate_callee (f := 31) rfl ?_); refine goesL_ (some 18) rfl rfl Tryd.func31 (by kernel_rfl) rfl #[.slice Ao8 t201.length co8, (.func (.func 32) #[] #[] : Value)] rfl am ?_; (with_reducible refine (api_Item_31.calls _ _ t201 (.func (.func 32) #[] #[] : Value) true _ ?side1 ?side2 A4.out).mono ?_); (case side1 => repeat (first | exact (Kd.R_reads' ad.out).2.2 | (with_reducible refine Kd.C_alloc ?_ _) | (with_reducible refine Kd.C_drewN ?_ _) | (with_reducible refine Kd.C_drew ?_))); (case side2 => exact (Kd.R_reads' ad.out).2.1); rintro e w9 ⟨rfl, hb⟩; refine ⟨_, rfl, ?_⟩; have n0_ := Aside0.mk (Kd.R_below (by (with_reducible repeat (first | apply Kd.R_alloc | apply Kd.R_drewN | apply Kd.R_drew)); exact ad.out) hb); have n1_ := Aside0.mk (nb ab.out hb); have n2_ := Aside0.mk (below_step bw hb); clear ad; clear ab; clear HB; have ad := n0_; have ab := n1_; have HB := n2_; clear n0_ n1_ n2_; (try clear hb); obtain ⟨hcz10_0, hcz10_1, hfz10_0, hfz10_1⟩ := bx2 ab.out))
  refine bodyPost_ret (results_ct rfl _ _ ae 35 #[.int .i64 0, .slice none 0 0] (0, 0) _ rfl (by (with_reducible repeat (first | refine blk_drewN ?_ _ | refine blk_drew ?_ | refine blk_alloc ?_ _)); refine blk_put (cs := #[.int .i64 0, .slice none 0 0]) ?_ 1 _ rfl; (with_reducible repeat (first | refine blk_drewN ?_ _ | refine blk_drew ?_ | refine blk_alloc ?_ _)); refine blk_put (cs := #[.int .i64 0, .slice none 0 0]) ?_ 0 _ rfl; (with_reducible repeat (first | refine blk_drewN ?_ _ | refine blk_drew ?_ | refine blk_alloc ?_ _)); exact ab.out) Tryd.underlying35 rfl (by kernel_rfl)) rfl ?_
  exact ⟨_, er, by first | exact Kd.R_nil _ _ _ _ _ | exact Kd.N_nil _ _ _ _ _ | exact Kd.V_nil _ _ _ _ _ | exact Kd.Q_nil _ _ _ _ _ | exact Kd.S_nil _ _ _ _ _, bw⟩
 replace c5 := Bool.eq_false_iff.mpr c5
 subst c5
 have H1 : (if 0 < (t201.length : Int) then (view_Decode.l0 k t201 1 (wrap64 ((rd_T58 t201 0).f1)) ([] : List (S47))) else (none)) = some (r1, r2, r3) := by rw [if_neg (show ¬ (false = true) by decide)] at H; exact H
 clear H
 have H := H1
 clear H1
 by_cases c11 : 0 < (t201.length : Int); rotate_left
 ·rw [if_neg c11] at H
  exact absurd H (by simp)
 rw [if_pos c11] at H
 have c11b0 : decide (0 < (t201.length : Int)) = true := decide_eq_true c11
 have c11b1 : decide (0 < t201.length) = true := decide_eq_true (by omega)
 clear c11
 have H' := Aside0.mk H
 clear H
 go_enter Tryd.func24, Tryd.ntmps24
 go_wp2_with (first | ((with_reducible refine gate_dst (N := 2) rfl ?_); refine box_event ?hg (N := 2) ?hd (cs := #[.int .i64 0, .slice none 0 0]) (t := 35) ?hr ?_; (case hd => rfl); (case hg => rfl); (case hr => first | (go_simp; done) | (go_simp; rfl)); intro ae hg w12 hbox hb; have n0_ := Aside0.mk (below_step bw hb); have n1_ := Aside0.mk (hbox); have n2_ := Aside0.mk ((g1 hg bw : w.heap.size ≤ ae)); have n3_ := Aside0.mk ((g1 hg bw : w.heap.size ≤ ae)); clear HB; have HB := n0_; have ab := n1_; have aw := n2_; have ax := n3_; clear n0_ n1_ n2_ n3_; clear hb hbox hg) | ((with_reducible refine gate_callee (f := 23) rfl ?_); refine goesL_ (some 10) rfl rfl Tryd.func23 (by kernel_rfl) rfl #[.string (⟨#[108, 42, 98, 108]⟩ : ByteArray), .string a0] rfl am ?_; (with_reducible refine (codec_Decode.calls k (⟨#[108, 42, 98, 108]⟩ : ByteArray) a0 t201 t202 _ tbk A2.out).mono ?_); rintro e w13 ⟨v203, rfl, ho0, hb⟩; refine ⟨_, rfl, ?_⟩; have n0_ := Aside0.mk (Kd.R_lower ho0 (below_size bw)); have n1_ := Aside0.mk (nb ab.out hb); have n2_ := Aside0.mk (below_step bw hb); clear ab; clear HB; have ad := n0_; have ab := n1_; have HB := n2_; clear n0_ n1_ n2_; (try clear hb); (try clear ho0); obtain ⟨Ao14, a6, eo14⟩ := Kd.R_slice ad.out; subst eo14) | ((with_reducible refine gate_callee (f := 31) rfl ?_); refine goesL_ (some 18) rfl rfl Tryd.func31 (by kernel_rfl) rfl #[.slice Ao14 t201.length a6, (.func (.func 32) #[] #[] : Value)] rfl am ?_; (with_reducible refine (api_Item_31.calls _ _ t201 (.func (.func 32) #[] #[] : Value) false _ ?side1 ?side2 A4.out).mono ?_); (case side1 => repeat (first | exact (Kd.R_reads' ad.out).2.2 | (with_reducible refine Kd.C_alloc ?_ _) | (with_reducible refine Kd.C_drewN ?_ _) | (with_reducible refine Kd.C_drew ?_))); (case side2 => exact (Kd.R_reads' ad.out).2.1); rintro e w15 ⟨rfl, hb⟩; refine ⟨_, rfl, ?_⟩; have n0_ := Aside0.mk (Kd.R_below (by (with_reducible repeat (first | apply Kd.R_alloc | apply Kd.R_drewN | apply Kd.R_drew)); exact ad.out) hb); have n1_ := Aside0.mk (nb ab.out hb); have n2_ := Aside0.mk (below_step bw hb); clear ad; clear ab; clear HB; have ad := n0_; have ab := n1_; have HB := n2_; clear n0_ n1_ n2_; (try clear hb); have p206 : 0 ≤ (0 : Int) := (by omega); have q206 : 0 < (t201.length : Int) := od; obtain ⟨ag, e206, ak, al, an⟩ := at_T58 (Kd.R_reads' ad.out).2.2 0 p206 q206; cases e206; have qi206 : (0 < t201.length) = True := eq_true (by omega); (try rw [show ((0 : Int)).toNat = 0 from rfl] at ak); (try rw [show 0 * 3 = 0 from rfl] at ak); (try rw [Addr.add_zero'] at ak); (try rw [show ((0 : Int)).toNat = 0 from rfl] at al); (try rw [show 0 * 3 = 0 from rfl] at al); (try rw [Addr.add_zero'] at al); (try rw [show ((0 : Int)).toNat = 0 from rfl] at an); (try rw [show 0 * 3 = 0 from rfl] at an); (try rw [Addr.add_zero'] at an); replace p206 := eq_true p206; replace q206 := eq_true q206) | ((with_reducible refine gate_dst (N := 6) rfl ?_); refine box_event ?hg (N := 6) ?hd (cs := #[.int .i64 0, .slice none 0 0]) (t := 35) ?hr ?_; (case hd => rfl); (case hg => rfl); (case hr => first | (go_simp; done) | (go_simp; rfl)); intro ah hg w16 hbox hb; have n0_ := Aside0.mk (Kd.R_below (by (with_reducible repeat (first | apply Kd.R_alloc | apply Kd.R_drewN | apply Kd.R_drew)); exact ad.out) hb); have n1_ := Aside0.mk (nb ab.out hb); have n2_ := Aside0.mk (below_step bw hb); have n3_ := Aside0.mk (hbox); have n4_ := Aside0.mk ((g1 hg bw : w.heap.size ≤ ah)); have n5_ := Aside0.mk ((g1 hg bw : w.heap.size ≤ ah)); have n6_ := Aside0.mk ((n1 hg ab.out : ae ≠ ah)); have n7_ := Aside0.mk ((n2 hg ab.out : ah ≠ ae)); clear ad; clear ab; clear HB; have ad := n0_; have ab := n1_; have HB := n2_; have ac := n3_; have GW207 := n4_; have GE207 := n5_; have af := n6_; have ai := n7_; clear n0_ n1_ n2_ n3_ n4_ n5_ n6_ n7_; clear hb hbox hg; have hnb17 := ai.out; have hnc17 := af.out; obtain ⟨hcz18_0, hcz18_1, hfz18_0, hfz18_1⟩ := bx2 ac.out))
 go_loopg [7] k (fun kq v7 w' => ∃ (x7_1 : Int) (x208001_1 : List (S47)) (u208001 : Value), v7 = .int .i64 x7_1 ∧ Aside0 (view_Decode.l0 kq t201 x7_1 (wrap64 ((rd_T58 t201 0).f1)) x208001_1 = some (r1, r2, r3)) ∧ Aside0 (kq ≤ k) ∧ Aside0 (Kd.R k58 58 w' w.heap.size (fun _ => True) (.slice (some ag) t201.length a6) t201) ∧ Aside0 (Kd.R k47 47 w' w.heap.size (fun _ => True) u208001 x208001_1) ∧ Aside0 (w'.heap[ae]? = some (.cells #[.int .i64 0, (.slice none 0 0)] 35 (0, 0))) ∧ Aside0 (w'.heap[ah]? = some (.cells #[.int .i64 (wrap64 ((rd_T58 t201 0).f1)), u208001] 35 (0, 0))) ∧ Aside0 (Below w.heap.size w w'))
 case atStart => exact ⟨(1), (([] : List (S47))), (.slice none 0 0), (by first | rfl | (simp; done) | (simp [*]; done)), H', ⟨Nat.le_refl _⟩, ⟨by (with_reducible repeat (first | apply Kd.R_alloc | apply Kd.R_drewN | apply Kd.R_drew)); exact Kd.R_mono (Kd.R_far (p := ⟨ah, 1, none⟩) (Kd.R_far (p := ⟨ah, 0, none⟩) (Kd.R_types ad.out ac.out (by decide)) (fun _ hk => hk.2) (.int .i64 (wrap64 ((rd_T58 t201 0).f1)))) (fun _ hk => hk.2) (.slice none 0 0)) (fun _ hk => trivial)⟩, ⟨by first | exact Kd.R_nil _ _ _ _ _ | exact Kd.N_nil _ _ _ _ _ | exact Kd.V_nil _ _ _ _ _ | exact Kd.Q_nil _ _ _ _ _ | exact Kd.S_nil _ _ _ _ _⟩, ⟨by (with_reducible repeat (first | refine blk_drewN ?_ _ | refine blk_drew ?_ | refine blk_alloc ?_ _ | refine blk_far ?_ af.out _)); exact ab.out⟩, ⟨by (with_reducible repeat (first | refine blk_drewN ?_ _ | refine blk_drew ?_ | refine blk_alloc ?_ _)); refine blk_put (cs := #[.int .i64 (wrap64 ((rd_T58 t201 0).f1)), .slice none 0 0]) ?_ 1 _ rfl; (with_reducible repeat (first | refine blk_drewN ?_ _ | refine blk_drew ?_ | refine blk_alloc ?_ _)); refine blk_put (cs := #[.int .i64 0, .slice none 0 0]) ?_ 0 _ rfl; (with_reducible repeat (first | refine blk_drewN ?_ _ | refine blk_drew ?_ | refine blk_alloc ?_ _)); exact ac.out⟩, ⟨bw⟩⟩
 case round =>
  clear H'
  try clear c1
  try clear c2
  try clear p2
  try clear q2
  try clear hx2
  try clear qi2
  try clear c3
  try clear a4
  try clear a5
  try clear c5
  try clear p6
  try clear c11
  try clear c11b0
  try clear c11b1
  try clear c17
  try clear hcz10_0 hcz10_1 hcz18_0 hcz18_1
  try clear hfz10_0 hfz10_1 hfz18_0 hfz18_1
  try clear ak
  try clear al
  try clear an
  try clear p206
  try clear q206
  obtain ⟨x7_1, x208001_1, u208001, rfl, HA, HK1, aj, aa, ab, ac, HB⟩ := hrel
  cases gk with
  | zero => exact absurd HA.out (by simp [view_Decode.l0])
  | succ k1 =>
   have H := HA.out
   clear HA
   simp only [view_Decode.l0] at H
   by_cases c19 : x7_1 < (t201.length : Int); rotate_left
   ·rw [if_neg c19] at H
    have c19b0 : decide (x7_1 < (t201.length : Int)) = false := decide_eq_false c19
    clear c19
    replace H := Option.bind_eq_some_iff.mp H
    obtain ⟨t213, A290, H⟩ := H
    replace H : (if t213 = true then (some ((wrap64 ((rd_T58 t201 0).f1)), x208001_1, 0)) else (some (0, ([] : List (S47)), 10))) = some (r1, r2, r3) := H
    have A29 := Aside0.mk A290
    clear A290
    by_cases c30 : t213 = true
    ·subst c30
     have H1 : (some ((wrap64 ((rd_T58 t201 0).f1)), x208001_1, 0)) = some (r1, r2, r3) := by rw [if_pos rfl] at H; exact H
     clear H
     have H := H1
     clear H1
     simp only [Option.some.injEq, Prod.mk.injEq] at H
     obtain ⟨rfl, rfl, rfl⟩ := H
     have hnb31 := ai.out
     have hnc31 := af.out
     obtain ⟨hcz32_0, hcz32_1, hfz32_0, hfz32_1⟩ := bx2 ac.out
     obtain ⟨a2, a3, eo33⟩ := Kd.R_slice aa.out
     subst eo33
     go_wp2_with (first | ((with_reducible refine gate_callee (f := 25) rfl ?_); refine goesL_ (some 52) rfl rfl Tryd.func25 (by kernel_rfl) rfl #[.agg #[.int .i64 (wrap64 ((rd_T58 t201 0).f1)), .slice a2 x208001_1.length a3]] rfl am ?_; (with_reducible refine (view_Right.calls k1 (wrap64 ((rd_T58 t201 0).f1)) _ _ x208001_1 true _ ?side1 ?side2 A29.out).mono ?_); (case side1 => repeat (first | exact (Kd.R_reads' aa.out).2.2 | (with_reducible refine Kd.C_alloc ?_ _) | (with_reducible refine Kd.C_drewN ?_ _) | (with_reducible refine Kd.C_drew ?_))); (case side2 => exact (Kd.R_reads' aa.out).2.1); rintro e w34 ⟨rfl, hb⟩; refine ⟨_, rfl, ?_⟩; have n0_ := Aside0.mk (Kd.R_below (by (with_reducible repeat (first | apply Kd.R_alloc | apply Kd.R_drewN | apply Kd.R_drew)); exact aj.out) hb); have n1_ := Aside0.mk (Kd.R_below (by (with_reducible repeat (first | apply Kd.R_alloc | apply Kd.R_drewN | apply Kd.R_drew)); exact aa.out) hb); have n2_ := Aside0.mk (nb ab.out hb); have n3_ := Aside0.mk (nb ac.out hb); have n4_ := Aside0.mk (below_step bw hb); clear aj; clear aa; clear ab; clear ac; clear HB; have aj := n0_; have aa := n1_; have ab := n2_; have ac := n3_; have HB := n4_; clear n0_ n1_ n2_ n3_ n4_; (try clear hb); obtain ⟨hcz35_0, hcz35_1, hfz35_0, hfz35_1⟩ := bx2 ac.out; obtain ⟨hcz36_0, hcz36_1, hfz36_0, hfz36_1⟩ := bx2 ab.out))
     refine bodyPost_ret (results_ct rfl _ _ ae 35 #[.int .i64 (wrap64 ((rd_T58 t201 0).f1)), .slice a2 x208001_1.length a3] (0, 0) _ rfl (by (with_reducible repeat (first | refine blk_drewN ?_ _ | refine blk_drew ?_ | refine blk_alloc ?_ _)); refine blk_put (cs := #[.int .i64 (wrap64 ((rd_T58 t201 0).f1)), .slice none 0 0]) ?_ 1 _ rfl; (with_reducible repeat (first | refine blk_drewN ?_ _ | refine blk_drew ?_ | refine blk_alloc ?_ _)); refine blk_put (cs := #[.int .i64 0, .slice none 0 0]) ?_ 0 _ rfl; (with_reducible repeat (first | refine blk_drewN ?_ _ | refine blk_drew ?_ | refine blk_alloc ?_ _)); exact ab.out) Tryd.underlying35 rfl (by kernel_rfl)) rfl ?_
     exact ⟨_, er, by (with_reducible repeat (first | apply Kd.R_alloc | apply Kd.R_drewN | apply Kd.R_drew)); exact Kd.R_mono (Kd.R_far (p := ⟨ae, 1, none⟩) (Kd.R_far (p := ⟨ae, 0, none⟩) (Kd.R_types aa.out ab.out (by decide)) (fun _ hk => hk.2) (.int .i64 (wrap64 ((rd_T58 t201 0).f1)))) (fun _ hk => hk.2) (.slice a2 x208001_1.length a3)) (fun _ hk => trivial), bw⟩
    replace c30 := Bool.eq_false_iff.mpr c30
    subst c30
    have H1 : (some (0, ([] : List (S47)), 10)) = some (r1, r2, r3) := by rw [if_neg (show ¬ (false = true) by decide)] at H; exact H
    clear H
    have H := H1
    clear H1
    simp only [Option.some.injEq, Prod.mk.injEq] at H
    obtain ⟨rfl, rfl, rfl⟩ := H
    have hnb37 := ai.out
    have hnc37 := af.out
    obtain ⟨hcz38_0, hcz38_1, hfz38_0, hfz38_1⟩ := bx2 ac.out
    obtain ⟨Ao39, co39, eo39⟩ := Kd.R_slice aa.out
    subst eo39
    go_wp2_with (first | ((with_reducible refine gate_callee (f := 25) rfl ?_); refine goesL_ (some 52) rfl rfl Tryd.func25 (by kernel_rfl) rfl #[.agg #[.int .i64 (wrap64 ((rd_T58 t201 0).f1)), .slice Ao39 x208001_1.length co39]] rfl am ?_; (with_reducible refine (view_Right.calls k1 (wrap64 ((rd_T58 t201 0).f1)) _ _ x208001_1 false _ ?side1 ?side2 A29.out).mono ?_); (case side1 => repeat (first | exact (Kd.R_reads' aa.out).2.2 | (with_reducible refine Kd.C_alloc ?_ _) | (with_reducible refine Kd.C_drewN ?_ _) | (with_reducible refine Kd.C_drew ?_))); (case side2 => exact (Kd.R_reads' aa.out).2.1); rintro e w40 ⟨rfl, hb⟩; refine ⟨_, rfl, ?_⟩; have n0_ := Aside0.mk (Kd.R_below (by (with_reducible repeat (first | apply Kd.R_alloc | apply Kd.R_drewN | apply Kd.R_drew)); exact aj.out) hb); have n1_ := Aside0.mk (Kd.R_below (by (with_reducible repeat (first | apply Kd.R_alloc | apply Kd.R_drewN | apply Kd.R_drew)); exact aa.out) hb); have n2_ := Aside0.mk (nb ab.out hb); have n3_ := Aside0.mk (nb ac.out hb); have n4_ := Aside0.mk (below_step bw hb); clear aj; clear aa; clear ab; clear ac; clear HB; have aj := n0_; have aa := n1_; have ab := n2_; have ac := n3_; have HB := n4_; clear n0_ n1_ n2_ n3_ n4_; (try clear hb); obtain ⟨hcz41_0, hcz41_1, hfz41_0, hfz41_1⟩ := bx2 ab.out))
    refine bodyPost_ret (results_ct rfl _ _ ae 35 #[.int .i64 0, .slice none 0 0] (0, 0) _ rfl (by (with_reducible repeat (first | refine blk_drewN ?_ _ | refine blk_drew ?_ | refine blk_alloc ?_ _)); refine blk_put (cs := #[.int .i64 0, .slice none 0 0]) ?_ 1 _ rfl; (with_reducible repeat (first | refine blk_drewN ?_ _ | refine blk_drew ?_ | refine blk_alloc ?_ _)); refine blk_put (cs := #[.int .i64 0, .slice none 0 0]) ?_ 0 _ rfl; (with_reducible repeat (first | refine blk_drewN ?_ _ | refine blk_drew ?_ | refine blk_alloc ?_ _)); exact ab.out) Tryd.underlying35 rfl (by kernel_rfl)) rfl ?_
    exact ⟨_, er, by first | exact Kd.R_nil _ _ _ _ _ | exact Kd.N_nil _ _ _ _ _ | exact Kd.V_nil _ _ _ _ _ | exact Kd.Q_nil _ _ _ _ _ | exact Kd.S_nil _ _ _ _ _, bw⟩
   rw [if_pos c19] at H
   have c19b0 : decide (x7_1 < (t201.length : Int)) = true := decide_eq_true c19
   clear c19
   by_cases c20 : 0 ≤ x7_1; rotate_left
   ·rw [if_neg c20] at H
    exact absurd H (by simp)
   rw [if_pos c20] at H
   have c20b0 : decide (0 ≤ x7_1) = true := decide_eq_true c20
   clear c20
   obtain ⟨ji21, hji21⟩ : ∃ j_ : Int, (wrap64 (x7_1 + 1)) = j_ := ⟨_, rfl⟩
   replace H : (if 0 ≤ (ji21) then (if (ji21) < (t201.length : Int) then (if x208001_1.length < 8796093022208 then (view_Decode.l0 k1 t201 (wrap64 (x7_1 + 2)) (wrap64 ((rd_T58 t201 0).f1)) (x208001_1 ++ [(⟨wrap64 ((rd_T58 t201 x7_1).f1), wrap64 ((rd_T58 t201 (ji21)).f1)⟩ : S47)])) else (none)) else (none)) else (none)) = some (r1, r2, r3) := by first | (rw [hji21] at H; exact H) | (simp only [hji21] at H ⊢; exact H)
   have hji21w : (IntKind.i64.wrap (x7_1 + 1)) = ji21 := (i64_w _).trans hji21
   by_cases c22 : 0 ≤ (ji21); rotate_left
   ·rw [if_neg c22] at H
    exact absurd H (by simp)
   rw [if_pos c22] at H
   have c22b0 : decide (0 ≤ (ji21)) = true := decide_eq_true c22
   clear c22
   by_cases c23 : (ji21) < (t201.length : Int); rotate_left
   ·rw [if_neg c23] at H
    exact absurd H (by simp)
   rw [if_pos c23] at H
   have c23b0 : decide ((ji21) < (t201.length : Int)) = true := decide_eq_true c23
   clear c23
   by_cases c24 : x208001_1.length < 8796093022208; rotate_left
   ·rw [if_neg c24] at H
    exact absurd H (by simp)
   rw [if_pos c24] at H
   have LMc24 := Aside0.mk c24
   clear c24
   obtain ⟨y210, hy210⟩ : ∃ y_ : List (S47), y_ = (x208001_1 ++ [(⟨wrap64 ((rd_T58 t201 x7_1).f1), wrap64 ((rd_T58 t201 (ji21)).f1)⟩ : S47)]) := ⟨_, rfl⟩
   replace H : (view_Decode.l0 k1 t201 (wrap64 (x7_1 + 2)) (wrap64 ((rd_T58 t201 0).f1)) y210) = some (r1, r2, r3) := by first | (rw [hy210]; with_reducible exact H) | (have H2_ := (Option.bind_some _ _).symm.trans H; rw [hy210]; with_reducible exact H2_) | (have H2_ := (Option.bind_some _ _).symm.trans H; with_reducible exact H2_) | with_reducible exact H | (rw [hy210]; exact H) | exact H
   have Ny210 := Aside0.mk hy210
   clear hy210
   have H' := Aside0.mk H
   clear H
   try go_wp2
   have n0_ := Aside0.mk (Kd.R_drew aj.out)
   have n1_ := Aside0.mk (Kd.R_drew aa.out)
   have n2_ := Aside0.mk (blk_drew ab.out)
   have n3_ := Aside0.mk (blk_drew ac.out)
   have n4_ := Aside0.mk (below_drew1 HB.out)
   clear aj
   clear aa
   clear ab
   clear ac
   clear HB
   have aj := n0_
   have aa := n1_
   have ab := n2_
   have ac := n3_
   have HB := n4_
   clear n0_ n1_ n2_ n3_ n4_
   have p208 : 0 ≤ (x7_1 : Int) := od
   have q208 : x7_1 < (t201.length : Int) := od
   obtain ⟨ad208, e208, ao, ap, aq⟩ := at_T58 (Kd.R_reads' aj.out).2.2 x7_1 p208 q208
   obtain rfl : ag = ad208 := (by injection e208)
   replace p208 := eq_true p208
   replace q208 := eq_true q208
   have p209 : 0 ≤ ((ji21) : Int) := od
   have q209 : (ji21) < (t201.length : Int) := od
   obtain ⟨ad209, e209, ar, au, av⟩ := at_T58 (Kd.R_reads' aj.out).2.2 (ji21) p209 q209
   obtain rfl : ag = ad209 := (by injection e209)
   replace p209 := eq_true p209
   replace q209 := eq_true q209
   refine start_ (n := 20) (S := fun w' => w'.cell? ⟨ah, 0, none⟩ = some (.int .i64 (wrap64 ((rd_T58 t201 0).f1))) ∧ w'.cell? ⟨ah, 1, none⟩ = some (u208001) ∧ w'.cell? (ag.add ((x7_1).toNat * 3)) = some (.int .i64 ((rd_T58 t201 x7_1).f0)) ∧ w'.cell? ⟨(ag.add ((x7_1).toNat * 3)).block, (ag.add ((x7_1).toNat * 3)).off + 1, none⟩ = some (.int .u64 ((rd_T58 t201 x7_1).f1)) ∧ w'.cell? ⟨(ag.add ((x7_1).toNat * 3)).block, (ag.add ((x7_1).toNat * 3)).off + 2, none⟩ = some (.string ((rd_T58 t201 x7_1).f2)) ∧ w'.cell? (ag.add (((ji21)).toNat * 3)) = some (.int .i64 ((rd_T58 t201 (ji21)).f0)) ∧ w'.cell? ⟨(ag.add (((ji21)).toNat * 3)).block, (ag.add (((ji21)).toNat * 3)).off + 1, none⟩ = some (.int .u64 ((rd_T58 t201 (ji21)).f1)) ∧ w'.cell? ⟨(ag.add (((ji21)).toNat * 3)).block, (ag.add (((ji21)).toNat * 3)).off + 2, none⟩ = some (.string ((rd_T58 t201 (ji21)).f2))) (ds := [17, 19]) (bz 20 0) (by kernel_rfl) rfl rfl ⟨(blk_cell ac.out 0).trans rfl, (blk_cell ac.out 1).trans rfl, ao, ap, aq, ar, au, av⟩ (fun hHeld => ?_); refine with_tabW view_Decode.tab10 view_Decode.bits10 (fun HT_ HW_ => ?_)
   generalize wr.drew = w25 at aj aa ab ac HB ao ap aq ar au av hHeld ⊢
   refine pu_ 0 (some 32) (bz 20 1) HT_.out ?_
   refine pu_ 2 (some 34) (bz 20 5) HT_.out ?_
   refine pu_ 3 (some 35) (bz 20 13) HT_.out ?_
   refine pu_ 4 (some 36) (bz 20 29) HT_.out ?_
   refine pu_ 5 (some 37) (bz 20 61) HT_.out ?_
   refine pu_ 8 (some 40) (bz 20 317) HT_.out ?_
   refine pu_ 9 (some 41) (bz 20 829) HT_.out ?_
   refine pu_ 10 (some 42) (bz 20 1853) HT_.out ?_
   refine pu_ 11 (some 43) (bz 20 3901) HT_.out ?_
   refine pu_ 12 (some 44) (bz 20 7997) HT_.out ?_
   refine take_ (i := 1) (N := some 33) (v := ?_) (a' := ?_) (bz 20 7999) rfl rfl (take_ofW HT_.out HW_.out (by kernel_rfl)) (fun _ _ _ h => h) (Or.inl ⟨by rfl, ?_⟩) hHeld ?_ ?_
   rotate_left
   ·rintro w' ⟨s0, s1, s2, s3, s4, s5, s6, s7⟩
    go_simp
    with_reducible rfl
   rotate_left
   ·simp only [Act.put, sl1, sl2, sl3, i64_w, i32_w]
    rfl
   refine take_ (i := 6) (N := some 38) (v := ?_) (a' := ?_) (bz 20 8063) rfl rfl (take_ofW HT_.out HW_.out (by kernel_rfl)) (fun _ _ _ h => h) (Or.inl ⟨by rfl, ?_⟩) hHeld ?_ ?_
   rotate_left
   ·rintro w' ⟨s0, s1, s2, s3, s4, s5, s6, s7⟩
    go_simp
    with_reducible rfl
   rotate_left
   ·simp only [Act.put, sl1, sl2, sl3, i64_w, i32_w]
    rfl
   refine pu_ 7 (some 39) (bz 20 8191) HT_.out ?_
   refine take_ (i := 13) (N := some 45) (v := ?_) (a' := ?_) (bz 20 16383) rfl rfl (take_ofW HT_.out HW_.out (by kernel_rfl)) (fun _ _ _ h => h) (Or.inl ⟨by rfl, ?_⟩) hHeld ?_ ?_
   rotate_left
   ·rintro w' ⟨s0, s1, s2, s3, s4, s5, s6, s7⟩
    go_simp
    with_reducible rfl
   rotate_left
   ·simp only [Act.put, sl1, sl2, sl3, i64_w, i32_w]
    rfl
   refine pu_ 14 (some 46) (bz 20 32767) HT_.out ?_
   refine pu_ 15 (some 47) (bz 20 65535) HT_.out ?_
   refine one_ (i := 16) (N := some 48) (bz 20 131071) rfl rfl (one_of HT_.out (by kernel_rfl)) (by decide) (fun K hK => ?_)
   refine value_ (w1 := ?_) (v := ?_) (by rfl) rfl ?_ ?_
   rotate_left 2
   ·go_simp
    constructor
    ·rfl
    ·rfl
   refine hK.out _ _ ⟨(blk_cell (blk_alloc ac.out _) 0).trans rfl, (blk_cell (blk_alloc ac.out _) 1).trans rfl, (World.cell?_alloc_lt _ _ _ (World.block_lt_of_cell? _ _ (hHeld.2.2.1))).trans (hHeld.2.2.1), (World.cell?_alloc_lt _ _ _ (World.block_lt_of_cell? _ _ (hHeld.2.2.2.1))).trans (hHeld.2.2.2.1), (World.cell?_alloc_lt _ _ _ (World.block_lt_of_cell? _ _ (hHeld.2.2.2.2.1))).trans (hHeld.2.2.2.2.1), (World.cell?_alloc_lt _ _ _ (World.block_lt_of_cell? _ _ (hHeld.2.2.2.2.2.1))).trans (hHeld.2.2.2.2.2.1), (World.cell?_alloc_lt _ _ _ (World.block_lt_of_cell? _ _ (hHeld.2.2.2.2.2.2.1))).trans (hHeld.2.2.2.2.2.2.1), (World.cell?_alloc_lt _ _ _ (World.block_lt_of_cell? _ _ (hHeld.2.2.2.2.2.2.2))).trans (hHeld.2.2.2.2.2.2.2)⟩ (fun hHeld => ?_)
   clear hK K
   refine norm_ (a' := ?_) ?_ ?_
   rotate_left
   ·show Act.put _ (some 48) _ = _
    simp only [Act.put, sl1, sl2, sl3, i64_w, i32_w]
    rfl
   refine last_ (i := 17) (N := some 49) (bz 20 262143) rfl rfl (one_of HT_.out (by kernel_rfl)) (by decide) (fun K hK => ?_)
   refine Kd.R_append_step k47 (w0 := w) w.heap.size (by rfl) (.tmp 33) (.tmp 48) 33 47 (.agg #[(.int .i64 0), (.int .i64 0)]) 16 rfl Tryd.underlying33 info47 rfl (by decide) (by omega) u208001 x208001_1 (⟨wrap64 ((rd_T58 t201 x7_1).f1), wrap64 ((rd_T58 t201 (ji21)).f1)⟩ : S47) [.int .i64 (wrap64 ((rd_T58 t201 x7_1).f1)), .int .i64 (wrap64 ((rd_T58 t201 (ji21)).f1))] (fun _ => True) (fun _ => False) rfl rfl ?aP (fun _ hk => hk.elim) ?aF ?aO ?aB ?aS ?aL ?_
   (case aP => exact k47_mkM _ _ _ (⟨wrap64 ((rd_T58 t201 x7_1).f1), wrap64 ((rd_T58 t201 (ji21)).f1)⟩ : S47))
   (case aB => exact bw)
   (case aF => exact (fun _ _ => trivial))
   (case aO => exact (by (with_reducible repeat (first | apply Kd.R_alloc | apply Kd.R_drewN | apply Kd.R_drew)); exact aa.out))
   (case aS => exact (below_size bw))
   (case aL => have := LMc24.out; omega)
   intro v211 w26 ho hb hg hat
   rw [← Ny210.out] at ho
   have n0_ := Aside0.mk (Kd.R_over' (by (with_reducible repeat (first | apply Kd.R_alloc | apply Kd.R_drewN | apply Kd.R_drew)); exact aj.out) (Kd.R_typed (by (with_reducible repeat (first | apply Kd.R_alloc | apply Kd.R_drewN | apply Kd.R_drew)); exact aa.out)) (by decide) hg)
   have n1_ := Aside0.mk (blk_grown (g := ae) (o := .cells #[.int .i64 0, .slice none 0 0] 35 (0, 0)) (bk ab.out) hg (Kd.R_ne aa.out ab.out (by decide)))
   have n2_ := Aside0.mk (blk_grown (g := ah) (o := .cells #[.int .i64 (wrap64 ((rd_T58 t201 0).f1)), u208001] 35 (0, 0)) (bk ac.out) hg (Kd.R_ne aa.out ac.out (by decide)))
   have n3_ := Aside0.mk (hb)
   have n4_ := Aside0.mk (ho)
   clear aj
   clear ab
   clear ac
   clear HB
   clear aa
   have aj := n0_
   have ab := n1_
   have ac := n2_
   have HB := n3_
   have ay := n4_
   clear n0_ n1_ n2_ n3_ n4_
   clear ho hb hg hat
   obtain ⟨az, a1, a7⟩ := Kd.R_slice ay.out
   (first | subst a7 | (injection a7 with f1_ f2_ f3_; have f4_ := f1_.symm; have f5_ := f3_.symm; clear f1_ f2_ f3_; subst f4_; subst f5_))
   refine hK.out _ _ ?_
   clear hK K
   refine norm_ (a' := ?_) ?_ ?_
   rotate_left
   ·show Act.put _ (some 49) _ = _
    simp only [Act.put, sl1, sl2, sl3, i64_w, i32_w]
    rfl
   refine pu_ 18 (some 50) (bz 20 524287) HT_.out ?_
   refine last_ (i := 19) (N := none) (bz 20 1048575) rfl rfl (one_of HT_.out (by kernel_rfl)) (by decide) (fun K hK => ?_)
   have hs28 : w26.cell? ⟨ah, 1, none⟩ = some (u208001) := (blk_cell ac.out 1).trans rfl
   have hfs28 := blk_frozen ac.out 1
   have hns28_0 := af.out
   have hms28_0 := ai.out
   refine skip_ (w1 := ?_) (by rfl) rfl ?_ ?_
   rotate_left
   ·go_simp
    rfl
   refine hK.out _ _ ?_
   clear hK K
   refine done_ (done_of HT_.out (by kernel_rfl)) ?_
   try go_wp2
   go_roundg k1
   case measure => have := HK1.out; omega
   case rel => (try rw [hji21]); exact ⟨(wrap64 (x7_1 + 2)), (y210), (.slice az y210.length a1), (by first | rfl | (simp; done) | (simp [*]; done)), H', ⟨by have := HK1.out; omega⟩, ⟨by (with_reducible repeat (first | apply Kd.R_alloc | apply Kd.R_drewN | apply Kd.R_drew)); exact Kd.R_mono (Kd.R_far (p := ⟨ah, 1, none⟩) (Kd.R_types aj.out ac.out (by decide)) (fun _ hk => hk.2) (.slice az y210.length a1)) (fun _ hk => trivial)⟩, ⟨by (with_reducible repeat (first | apply Kd.R_alloc | apply Kd.R_drewN | apply Kd.R_drew)); exact Kd.R_mono (Kd.R_far (p := ⟨ah, 1, none⟩) (Kd.R_types ay.out ac.out (by decide)) (fun _ hk => hk.2) (.slice az y210.length a1)) (fun _ hk => trivial)⟩, ⟨by (with_reducible repeat (first | refine blk_drewN ?_ _ | refine blk_drew ?_ | refine blk_alloc ?_ _)); refine blk_far ?_ af.out _; (with_reducible repeat (first | refine blk_drewN ?_ _ | refine blk_drew ?_ | refine blk_alloc ?_ _)); exact ab.out⟩, ⟨by (with_reducible repeat (first | refine blk_drewN ?_ _ | refine blk_drew ?_ | refine blk_alloc ?_ _)); refine blk_put (cs := #[.int .i64 (wrap64 ((rd_T58 t201 0).f1)), u208001]) ?_ 1 _ rfl; (with_reducible repeat (first | refine blk_drewN ?_ _ | refine blk_drew ?_ | refine blk_alloc ?_ _)); exact ac.out⟩, ⟨bw⟩⟩

/-! ### flush_Decode: function 17 -/
def flush_Decode.l0 : Nat → List ByteArray → List (S58) → Int → Int → Int → List (S47) → Option (Int × (List (S47)) × List ByteArray × Int)
 | 0, _, _, _, _, _, _ => none
 | k + 1, x8, x37, x38, x39, x226000, x226001 => if x39 < x38 then (if 0 ≤ x39 then (if x39 < (x37.length : Int) then (if x8.length < 8796093022208 then (flush_Decode.l0 k (x8 ++ [(rd_T58 x37 x39).f2]) x37 x38 (wrap64 (x39 + 1)) x226000 x226001) else (none)) else (none)) else (none)) else (some (x226000, x226001, x8, 0))
def flush_Decode.f (k : Nat) (a0 : ByteArray) : Option (Int × (List (S47)) × List ByteArray × Int) := (codec_Decode.f k (⟨#[116, 42, 116]⟩ : ByteArray) a0).bind fun bt215 => (if bt215.2 = 0 then (if 0 < (bt215.1.length : Int) then ((view_Decode.f k ((rd_T58 bt215.1 0).f2)).bind fun bt220 => (if bt220.2.2 = 0 then (if (bt215.1.length : Int) > 991 then (some (0, ([] : List (S47)), ([] : List ByteArray), 10)) else (if 1 ≤ (bt215.1.length : Int) then ((some (bt215.1.drop (1 : Int).toNat : List (S58))).bind fun y226 => (flush_Decode.l0 k ([] : List ByteArray) y226 (y226.length : Int) 0 bt220.1 bt220.2.1)) else (none))) else (some (0, ([] : List (S47)), ([] : List ByteArray), 10)))) else (none)) else (some (0, ([] : List (S47)), ([] : List ByteArray), bt215.2)))
theorem flush_Decode.mono_l : ∀ k, (∀ y0 y1 y2 y3 y4 y5, LeO (flush_Decode.l0 k y0 y1 y2 y3 y4 y5) (flush_Decode.l0 (k + 1) y0 y1 y2 y3 y4 y5))
 | 0 => fun _ _ _ _ _ _ r h => by simp [flush_Decode.l0] at h
 | k + 1 => by
  have ih0 := flush_Decode.mono_l k
  ·intro y0 y1 y2 y3 y4 y5
   unfold flush_Decode.l0
   repeat' first
   | (with_reducible exact ih0 _ _ _ _ _ _)
   | (with_reducible exact codec_Decode.mono _ _ _)
   | (with_reducible exact view_Decode.mono _ _)
   | (with_reducible exact LeO.refl _)
   | (with_reducible exact LeO.none _)
   | (with_reducible refine LeO.ite ?_ ?_)
   | (with_reducible refine LeO.bind ?_ (fun _ => ?_))
   | exact ih0 _ _ _ _ _ _
   | exact codec_Decode.mono _ _ _
   | exact view_Decode.mono _ _
   | exact LeO.none _
   | refine LeO.ite ?_ ?_
   | refine LeO.bind ?_ (fun _ => ?_)
theorem flush_Decode.mono : ∀ a0 k, LeO (flush_Decode.f k a0) (flush_Decode.f (k + 1) a0) := by
 intro a0 k
 have ih0 := flush_Decode.mono_l k
 unfold flush_Decode.f
 repeat' first
   | (with_reducible exact ih0 _ _ _ _ _ _)
   | (with_reducible exact codec_Decode.mono _ _ _)
   | (with_reducible exact view_Decode.mono _ _)
   | (with_reducible exact LeO.refl _)
   | (with_reducible exact LeO.none _)
   | (with_reducible refine LeO.ite ?_ ?_)
   | (with_reducible refine LeO.bind ?_ (fun _ => ?_))
   | exact ih0 _ _ _ _ _ _
   | exact codec_Decode.mono _ _ _
   | exact view_Decode.mono _ _
   | exact LeO.none _
   | refine LeO.ite ?_ ?_
   | refine LeO.bind ?_ (fun _ => ?_)
set_option maxHeartbeats 8000000 in
set_option maxRecDepth 100000 in
theorem flush_Decode.calls (k : Nat) (a0 : ByteArray) (r1 : Int) (r2 : List (S47)) (r3 : List ByteArray) (r4 : Int) (w : World) (HT_ : TabOk w) (h : flush_Decode.f k a0 = some (r1, r2, r3, r4)) :
  Calls Tryd.prog 17 #[.string a0] w fun e w' => ∃ v1_ v2_ : Value, e = .returned (.tuple #[.agg #[.int .i64 r1, v1_], v2_, .int .i64 r4]) ∧ Kd.R k47 47 w' w.heap.size (fun _ => True) v1_ r2 ∧ Kd.R Kd.string 9 w' w.heap.size (fun _ => True) v2_ r3 ∧ Below w.heap.size w w' := by
 have HT := Aside0.mk HT_
 clear HT_
 have hu35 := Tryd.underlying35
 have hu58 := Tryd.underlying58
 have HB := Aside0.mk (Below.refl w.heap.size w)
 have H : ((codec_Decode.f k (⟨#[116, 42, 116]⟩ : ByteArray) a0).bind fun bt215 => (if bt215.2 = 0 then (if 0 < (bt215.1.length : Int) then ((view_Decode.f k ((rd_T58 bt215.1 0).f2)).bind fun bt220 => (if bt220.2.2 = 0 then (if (bt215.1.length : Int) > 991 then (some (0, ([] : List (S47)), ([] : List ByteArray), 10)) else (if 1 ≤ (bt215.1.length : Int) then ((some (bt215.1.drop (1 : Int).toNat : List (S58))).bind fun y226 => (flush_Decode.l0 k ([] : List ByteArray) y226 (y226.length : Int) 0 bt220.1 bt220.2.1)) else (none))) else (some (0, ([] : List (S47)), ([] : List ByteArray), 10)))) else (none)) else (some (0, ([] : List (S47)), ([] : List ByteArray), bt215.2)))) = some (r1, r2, r3, r4) := h
 clear h
 replace H := Option.bind_eq_some_iff.mp H
 obtain ⟨⟨t215, t216⟩, A20, H⟩ := H
 replace H : (if t216 = 0 then (if 0 < (t215.length : Int) then ((view_Decode.f k ((rd_T58 t215 0).f2)).bind fun bt220 => (if bt220.2.2 = 0 then (if (t215.length : Int) > 991 then (some (0, ([] : List (S47)), ([] : List ByteArray), 10)) else (if 1 ≤ (t215.length : Int) then ((some (t215.drop (1 : Int).toNat : List (S58))).bind fun y226 => (flush_Decode.l0 k ([] : List ByteArray) y226 (y226.length : Int) 0 bt220.1 bt220.2.1)) else (none))) else (some (0, ([] : List (S47)), ([] : List ByteArray), 10)))) else (none)) else (some (0, ([] : List (S47)), ([] : List ByteArray), t216))) = some (r1, r2, r3, r4) := H
 have A2 := Aside0.mk A20
 clear A20
 by_cases c3 : t216 = 0; rotate_left
 ·rw [if_neg c3] at H
  have a7 : (t216 == 0) = false := beq_eq_false_iff_ne.mpr c3
  have a8 : (t216 != 0) = true := bne_iff_ne.mpr c3
  simp only [Option.some.injEq, Prod.mk.injEq] at H
  obtain ⟨rfl, rfl, rfl, rfl⟩ := H
  go_enter Tryd.func17, Tryd.ntmps17
  go_wp2_with (first | ((with_reducible refine gate_dst (N := 2) rfl ?_); (try (refine gate_guard (by rfl) ?_; dsimp only)); refine box_event ?hg (N := 2) ?hd (cs := #[.int .i64 0, .slice none 0 0]) (t := 35) ?hr ?_; (case hd => rfl); (case hg => rfl); (case hr => first | (go_simp; done) | (go_simp; rfl)); intro ac hg w49 hbox hb; have n0_ := Aside0.mk (below_step bw hb); have n1_ := Aside0.mk (hbox); have n2_ := Aside0.mk ((g1 hg bw : w.heap.size ≤ ac)); have n3_ := Aside0.mk ((g1 hg bw : w.heap.size ≤ ac)); clear HB; have HB := n0_; have aa := n1_; have ay := n2_; have az := n3_; clear n0_ n1_ n2_ n3_; clear hb hbox hg) | ((with_reducible refine gate_callee (f := 23) rfl ?_); refine goesL_ (some 13) rfl rfl Tryd.func23 (by kernel_rfl) rfl #[.string (⟨#[116, 42, 116]⟩ : ByteArray), .string a0] rfl am ?_; (with_reducible refine (codec_Decode.calls k (⟨#[116, 42, 116]⟩ : ByteArray) a0 t215 t216 _ tbk A2.out).mono ?_); rintro e w50 ⟨v217, rfl, ho0, hb⟩; refine ⟨_, rfl, ?_⟩; have n0_ := Aside0.mk (Kd.R_lower ho0 (below_size bw)); have n1_ := Aside0.mk (nb aa.out hb); have n2_ := Aside0.mk (below_step bw hb); clear aa; clear HB; have ab := n0_; have aa := n1_; have HB := n2_; clear n0_ n1_ n2_; (try clear hb); (try clear ho0); obtain ⟨hcz51_0, hcz51_1, hfz51_0, hfz51_1⟩ := bx2 aa.out))
  refine bodyPost_ret (results_ctt rfl _ _ ac 35 #[.int .i64 0, .slice none 0 0] (0, 0) _ rfl (by (with_reducible repeat (first | refine blk_drewN ?_ _ | refine blk_drew ?_ | refine blk_alloc ?_ _)); refine blk_put (cs := #[.int .i64 0, .slice none 0 0]) ?_ 1 _ rfl; (with_reducible repeat (first | refine blk_drewN ?_ _ | refine blk_drew ?_ | refine blk_alloc ?_ _)); refine blk_put (cs := #[.int .i64 0, .slice none 0 0]) ?_ 0 _ rfl; (with_reducible repeat (first | refine blk_drewN ?_ _ | refine blk_drew ?_ | refine blk_alloc ?_ _)); exact aa.out) Tryd.underlying35 rfl (by kernel_rfl)) rfl ?_
  exact ⟨_, _, er, by first | exact Kd.R_nil _ _ _ _ _ | exact Kd.N_nil _ _ _ _ _ | exact Kd.V_nil _ _ _ _ _ | exact Kd.Q_nil _ _ _ _ _ | exact Kd.S_nil _ _ _ _ _, by first | exact Kd.R_nil _ _ _ _ _ | exact Kd.N_nil _ _ _ _ _ | exact Kd.V_nil _ _ _ _ _ | exact Kd.Q_nil _ _ _ _ _ | exact Kd.S_nil _ _ _ _ _, bw⟩
 rw [if_pos c3] at H
 have a7 : (t216 == 0) = true := beq_iff_eq.mpr c3
 have a8 : (t216 != 0) = false := bne_eq_false_iff_eq.mpr c3
 clear c3
 by_cases c4 : 0 < (t215.length : Int); rotate_left
 ·rw [if_neg c4] at H
  exact absurd H (by simp)
 rw [if_pos c4] at H
 have c4b0 : decide (0 < (t215.length : Int)) = true := decide_eq_true c4
 have c4b1 : decide (0 < t215.length) = true := decide_eq_true (by omega)
 clear c4
 replace H := Option.bind_eq_some_iff.mp H
 obtain ⟨⟨t220, t221, t224⟩, A50, H⟩ := H
 replace H : (if t224 = 0 then (if (t215.length : Int) > 991 then (some (0, ([] : List (S47)), ([] : List ByteArray), 10)) else (if 1 ≤ (t215.length : Int) then ((some (t215.drop (1 : Int).toNat : List (S58))).bind fun y226 => (flush_Decode.l0 k ([] : List ByteArray) y226 (y226.length : Int) 0 t220 t221)) else (none))) else (some (0, ([] : List (S47)), ([] : List ByteArray), 10))) = some (r1, r2, r3, r4) := H
 have A5 := Aside0.mk A50
 clear A50
 by_cases c6 : t224 = 0; rotate_left
 ·rw [if_neg c6] at H
  have a9 : (t224 == 0) = false := beq_eq_false_iff_ne.mpr c6
  have ba : (t224 != 0) = true := bne_iff_ne.mpr c6
  simp only [Option.some.injEq, Prod.mk.injEq] at H
  obtain ⟨rfl, rfl, rfl, rfl⟩ := H
  go_enter Tryd.func17, Tryd.ntmps17
  go_wp2_with (first | ((with_reducible refine gate_dst (N := 2) rfl ?_); (try (refine gate_guard (by rfl) ?_; dsimp only)); refine box_event ?hg (N := 2) ?hd (cs := #[.int .i64 0, .slice none 0 0]) (t := 35) ?hr ?_; (case hd => rfl); (case hg => rfl); (case hr => first | (go_simp; done) | (go_simp; rfl)); intro ac hg w40 hbox hb; have n0_ := Aside0.mk (below_step bw hb); have n1_ := Aside0.mk (hbox); have n2_ := Aside0.mk ((g1 hg bw : w.heap.size ≤ ac)); have n3_ := Aside0.mk ((g1 hg bw : w.heap.size ≤ ac)); clear HB; have HB := n0_; have aa := n1_; have ay := n2_; have az := n3_; clear n0_ n1_ n2_ n3_; clear hb hbox hg) | ((with_reducible refine gate_callee (f := 23) rfl ?_); refine goesL_ (some 13) rfl rfl Tryd.func23 (by kernel_rfl) rfl #[.string (⟨#[116, 42, 116]⟩ : ByteArray), .string a0] rfl am ?_; (with_reducible refine (codec_Decode.calls k (⟨#[116, 42, 116]⟩ : ByteArray) a0 t215 t216 _ tbk A2.out).mono ?_); rintro e w41 ⟨v217, rfl, ho0, hb⟩; refine ⟨_, rfl, ?_⟩; have n0_ := Aside0.mk (Kd.R_lower ho0 (below_size bw)); have n1_ := Aside0.mk (nb aa.out hb); have n2_ := Aside0.mk (below_step bw hb); clear aa; clear HB; have ab := n0_; have aa := n1_; have HB := n2_; clear n0_ n1_ n2_; (try clear hb); (try clear ho0); obtain ⟨Ao42, co42, eo42⟩ := Kd.R_slice ab.out; subst eo42; have p219 : 0 ≤ (0 : Int) := (by omega); have q219 : 0 < (t215.length : Int) := od; obtain ⟨ap, e219, ah, ai, aj⟩ := at_T58 (Kd.R_reads' ab.out).2.2 0 p219 q219; cases e219; have qi219 : (0 < t215.length) = True := eq_true (by omega); (try rw [show ((0 : Int)).toNat = 0 from rfl] at ah); (try rw [show 0 * 3 = 0 from rfl] at ah); (try rw [Addr.add_zero'] at ah); (try rw [show ((0 : Int)).toNat = 0 from rfl] at ai); (try rw [show 0 * 3 = 0 from rfl] at ai); (try rw [Addr.add_zero'] at ai); (try rw [show ((0 : Int)).toNat = 0 from rfl] at aj); (try rw [show 0 * 3 = 0 from rfl] at aj); (try rw [Addr.add_zero'] at aj); replace p219 := eq_true p219; replace q219 := eq_true q219) | ((with_reducible refine gate_callee (f := 24) rfl ?_); refine goesL_ (some 25) rfl rfl Tryd.func24 (by kernel_rfl) rfl #[.string ((rd_T58 t215 0).f2)] rfl am ?_; (with_reducible refine (view_Decode.calls k ((rd_T58 t215 0).f2) t220 t221 t224 _ tbk A5.out).mono ?_); rintro e w43 ⟨v222, rfl, ho0, hb⟩; refine ⟨_, rfl, ?_⟩; have n0_ := Aside0.mk (Kd.R_below (by (with_reducible repeat (first | apply Kd.R_alloc | apply Kd.R_drewN | apply Kd.R_drew)); exact ab.out) hb); have n1_ := Aside0.mk (Kd.R_lower ho0 (below_size bw)); have n2_ := Aside0.mk (nb aa.out hb); have n3_ := Aside0.mk (below_step bw hb); clear ab; clear aa; clear HB; have ab := n0_; have al := n1_; have aa := n2_; have HB := n3_; clear n0_ n1_ n2_ n3_; (try clear hb); (try clear ho0)) | ((with_reducible refine gate_dst (N := 7) rfl ?_); (try (refine gate_guard (by rfl) ?_; dsimp only)); refine box_event ?hg (N := 7) ?hd (cs := #[.int .i64 0, .slice none 0 0]) (t := 35) ?hr ?_; (case hd => rfl); (case hg => rfl); (case hr => first | (go_simp; done) | (go_simp; rfl)); intro ad hg w44 hbox hb; have n0_ := Aside0.mk (Kd.R_below (by (with_reducible repeat (first | apply Kd.R_alloc | apply Kd.R_drewN | apply Kd.R_drew)); exact ab.out) hb); have n1_ := Aside0.mk (Kd.R_below (by (with_reducible repeat (first | apply Kd.R_alloc | apply Kd.R_drewN | apply Kd.R_drew)); exact al.out) hb); have n2_ := Aside0.mk (nb aa.out hb); have n3_ := Aside0.mk (below_step bw hb); have n4_ := Aside0.mk (hbox); have n5_ := Aside0.mk ((g1 hg bw : w.heap.size ≤ ad)); have n6_ := Aside0.mk ((g1 hg bw : w.heap.size ≤ ad)); have n7_ := Aside0.mk ((n1 hg aa.out : ac ≠ ad)); have n8_ := Aside0.mk ((n2 hg aa.out : ad ≠ ac)); clear ab; clear al; clear aa; clear HB; have ab := n0_; have al := n1_; have aa := n2_; have HB := n3_; have af := n4_; have a3 := n5_; have a4 := n6_; have ag := n7_; have an := n8_; clear n0_ n1_ n2_ n3_ n4_ n5_ n6_ n7_ n8_; clear hb hbox hg; have hnb45 := an.out; have hnc45 := ag.out; obtain ⟨hcz46_0, hcz46_1, hfz46_0, hfz46_1⟩ := bx2 af.out; obtain ⟨Ao47, co47, eo47⟩ := Kd.R_slice al.out; subst eo47; obtain ⟨hcz48_0, hcz48_1, hfz48_0, hfz48_1⟩ := bx2 aa.out))
  refine bodyPost_ret (results_ctt rfl _ _ ac 35 #[.int .i64 0, .slice none 0 0] (0, 0) _ rfl (by (with_reducible repeat (first | refine blk_drewN ?_ _ | refine blk_drew ?_ | refine blk_alloc ?_ _)); refine blk_put (cs := #[.int .i64 0, .slice none 0 0]) ?_ 1 _ rfl; (with_reducible repeat (first | refine blk_drewN ?_ _ | refine blk_drew ?_ | refine blk_alloc ?_ _)); refine blk_put (cs := #[.int .i64 0, .slice none 0 0]) ?_ 0 _ rfl; (with_reducible repeat (first | refine blk_drewN ?_ _ | refine blk_drew ?_ | refine blk_alloc ?_ _ | refine blk_far ?_ ag.out _)); exact aa.out) Tryd.underlying35 rfl (by kernel_rfl)) rfl ?_
  exact ⟨_, _, er, by first | exact Kd.R_nil _ _ _ _ _ | exact Kd.N_nil _ _ _ _ _ | exact Kd.V_nil _ _ _ _ _ | exact Kd.Q_nil _ _ _ _ _ | exact Kd.S_nil _ _ _ _ _, by first | exact Kd.R_nil _ _ _ _ _ | exact Kd.N_nil _ _ _ _ _ | exact Kd.V_nil _ _ _ _ _ | exact Kd.Q_nil _ _ _ _ _ | exact Kd.S_nil _ _ _ _ _, bw⟩
 rw [if_pos c6] at H
 have a9 : (t224 == 0) = true := beq_iff_eq.mpr c6
 have ba : (t224 != 0) = false := bne_eq_false_iff_eq.mpr c6
 clear c6
 by_cases c7 : (t215.length : Int) > 991
 ·rw [if_pos c7] at H
  have bb : decide (991 < (t215.length : Int)) = true := decide_eq_true c7
  have bc : decide (991 < t215.length) = true := decide_eq_true (by omega)
  clear c7
  simp only [Option.some.injEq, Prod.mk.injEq] at H
  obtain ⟨rfl, rfl, rfl, rfl⟩ := H
  go_enter Tryd.func17, Tryd.ntmps17
  go_wp2_with (first | ((with_reducible refine gate_dst (N := 2) rfl ?_); (try (refine gate_guard (by rfl) ?_; dsimp only)); refine box_event ?hg (N := 2) ?hd (cs := #[.int .i64 0, .slice none 0 0]) (t := 35) ?hr ?_; (case hd => rfl); (case hg => rfl); (case hr => first | (go_simp; done) | (go_simp; rfl)); intro ac hg w8 hbox hb; have n0_ := Aside0.mk (below_step bw hb); have n1_ := Aside0.mk (hbox); have n2_ := Aside0.mk ((g1 hg bw : w.heap.size ≤ ac)); have n3_ := Aside0.mk ((g1 hg bw : w.heap.size ≤ ac)); clear HB; have HB := n0_; have aa := n1_; have ay := n2_; have az := n3_; clear n0_ n1_ n2_ n3_; clear hb hbox hg) | ((with_reducible refine gate_callee (f := 23) rfl ?_); refine goesL_ (some 13) rfl rfl Tryd.func23 (by kernel_rfl) rfl #[.string (⟨#[116, 42, 116]⟩ : ByteArray), .string a0] rfl am ?_; (with_reducible refine (codec_Decode.calls k (⟨#[116, 42, 116]⟩ : ByteArray) a0 t215 t216 _ tbk A2.out).mono ?_); rintro e w9 ⟨v217, rfl, ho0, hb⟩; refine ⟨_, rfl, ?_⟩; have n0_ := Aside0.mk (Kd.R_lower ho0 (below_size bw)); have n1_ := Aside0.mk (nb aa.out hb); have n2_ := Aside0.mk (below_step bw hb); clear aa; clear HB; have ab := n0_; have aa := n1_; have HB := n2_; clear n0_ n1_ n2_; (try clear hb); (try clear ho0); obtain ⟨Ao10, co10, eo10⟩ := Kd.R_slice ab.out; subst eo10; have p219 : 0 ≤ (0 : Int) := (by omega); have q219 : 0 < (t215.length : Int) := od; obtain ⟨ap, e219, ah, ai, aj⟩ := at_T58 (Kd.R_reads' ab.out).2.2 0 p219 q219; cases e219; have qi219 : (0 < t215.length) = True := eq_true (by omega); (try rw [show ((0 : Int)).toNat = 0 from rfl] at ah); (try rw [show 0 * 3 = 0 from rfl] at ah); (try rw [Addr.add_zero'] at ah); (try rw [show ((0 : Int)).toNat = 0 from rfl] at ai); (try rw [show 0 * 3 = 0 from rfl] at ai); (try rw [Addr.add_zero'] at ai); (try rw [show ((0 : Int)).toNat = 0 from rfl] at aj); (try rw [show 0 * 3 = 0 from rfl] at aj); (try rw [Addr.add_zero'] at aj); replace p219 := eq_true p219; replace q219 := eq_true q219) | ((with_reducible refine gate_callee (f := 24) rfl ?_); refine goesL_ (some 25) rfl rfl Tryd.func24 (by kernel_rfl) rfl #[.string ((rd_T58 t215 0).f2)] rfl am ?_; (with_reducible refine (view_Decode.calls k ((rd_T58 t215 0).f2) t220 t221 t224 _ tbk A5.out).mono ?_); rintro e w11 ⟨v222, rfl, ho0, hb⟩; refine ⟨_, rfl, ?_⟩; have n0_ := Aside0.mk (Kd.R_below (by (with_reducible repeat (first | apply Kd.R_alloc | apply Kd.R_drewN | apply Kd.R_drew)); exact ab.out) hb); have n1_ := Aside0.mk (Kd.R_lower ho0 (below_size bw)); have n2_ := Aside0.mk (nb aa.out hb); have n3_ := Aside0.mk (below_step bw hb); clear ab; clear aa; clear HB; have ab := n0_; have al := n1_; have aa := n2_; have HB := n3_; clear n0_ n1_ n2_ n3_; (try clear hb); (try clear ho0)) | ((with_reducible refine gate_dst (N := 7) rfl ?_); (try (refine gate_guard (by rfl) ?_; dsimp only)); refine box_event ?hg (N := 7) ?hd (cs := #[.int .i64 0, .slice none 0 0]) (t := 35) ?hr ?_; (case hd => rfl); (case hg => rfl); (case hr => first | (go_simp; done) | (go_simp; rfl)); intro ad hg w12 hbox hb; have n0_ := Aside0.mk (Kd.R_below (by (with_reducible repeat (first | apply Kd.R_alloc | apply Kd.R_drewN | apply Kd.R_drew)); exact ab.out) hb); have n1_ := Aside0.mk (Kd.R_below (by (with_reducible repeat (first | apply Kd.R_alloc | apply Kd.R_drewN | apply Kd.R_drew)); exact al.out) hb); have n2_ := Aside0.mk (nb aa.out hb); have n3_ := Aside0.mk (below_step bw hb); have n4_ := Aside0.mk (hbox); have n5_ := Aside0.mk ((g1 hg bw : w.heap.size ≤ ad)); have n6_ := Aside0.mk ((g1 hg bw : w.heap.size ≤ ad)); have n7_ := Aside0.mk ((n1 hg aa.out : ac ≠ ad)); have n8_ := Aside0.mk ((n2 hg aa.out : ad ≠ ac)); clear ab; clear al; clear aa; clear HB; have ab := n0_; have al := n1_; have aa := n2_; have HB := n3_; have af := n4_; have a3 := n5_; have a4 := n6_; have ag := n7_; have an := n8_; clear n0_ n1_ n2_ n3_ n4_ n5_ n6_ n7_ n8_; clear hb hbox hg; have hnb13 := an.out; have hnc13 := ag.out; obtain ⟨hcz14_0, hcz14_1, hfz14_0, hfz14_1⟩ := bx2 af.out; obtain ⟨Ao15, co15, eo15⟩ := Kd.R_slice al.out; subst eo15; obtain ⟨hcz16_0, hcz16_1, hfz16_0, hfz16_1⟩ := bx2 aa.out))
  refine bodyPost_ret (results_ctt rfl _ _ ac 35 #[.int .i64 0, .slice none 0 0] (0, 0) _ rfl (by (with_reducible repeat (first | refine blk_drewN ?_ _ | refine blk_drew ?_ | refine blk_alloc ?_ _)); refine blk_put (cs := #[.int .i64 0, .slice none 0 0]) ?_ 1 _ rfl; (with_reducible repeat (first | refine blk_drewN ?_ _ | refine blk_drew ?_ | refine blk_alloc ?_ _)); refine blk_put (cs := #[.int .i64 0, .slice none 0 0]) ?_ 0 _ rfl; (with_reducible repeat (first | refine blk_drewN ?_ _ | refine blk_drew ?_ | refine blk_alloc ?_ _ | refine blk_far ?_ ag.out _)); exact aa.out) Tryd.underlying35 rfl (by kernel_rfl)) rfl ?_
  exact ⟨_, _, er, by first | exact Kd.R_nil _ _ _ _ _ | exact Kd.N_nil _ _ _ _ _ | exact Kd.V_nil _ _ _ _ _ | exact Kd.Q_nil _ _ _ _ _ | exact Kd.S_nil _ _ _ _ _, by first | exact Kd.R_nil _ _ _ _ _ | exact Kd.N_nil _ _ _ _ _ | exact Kd.V_nil _ _ _ _ _ | exact Kd.Q_nil _ _ _ _ _ | exact Kd.S_nil _ _ _ _ _, bw⟩
 rw [if_neg c7] at H
 have bb : decide (991 < (t215.length : Int)) = false := decide_eq_false c7
 have bc : decide (991 < t215.length) = false := decide_eq_false (by omega)
 clear c7
 by_cases c17 : 1 ≤ (t215.length : Int); rotate_left
 ·rw [if_neg c17] at H
  exact absurd H (by simp)
 rw [if_pos c17] at H
 have c17b0 := eq_true c17
 have c17b1 : decide (1 ≤ (t215.length : Int)) = true := decide_eq_true c17
 clear c17
 obtain ⟨y226, hy226⟩ : ∃ y_ : List (S58), y_ = (t215.drop (1 : Int).toNat) := ⟨_, rfl⟩
 replace H : (flush_Decode.l0 k ([] : List ByteArray) y226 (y226.length : Int) 0 t220 t221) = some (r1, r2, r3, r4) := by first | (rw [hy226]; with_reducible exact H) | (have H2_ := (Option.bind_some _ _).symm.trans H; rw [hy226]; with_reducible exact H2_) | (have H2_ := (Option.bind_some _ _).symm.trans H; with_reducible exact H2_) | with_reducible exact H | (rw [hy226]; exact H) | exact H
 have Ny226 := Aside0.mk hy226
 clear hy226
 have H' := Aside0.mk H
 clear H
 go_enter Tryd.func17, Tryd.ntmps17
 go_wp2_with (first | ((with_reducible refine gate_dst (N := 2) rfl ?_); (try (refine gate_guard (by rfl) ?_; dsimp only)); refine box_event ?hg (N := 2) ?hd (cs := #[.int .i64 0, .slice none 0 0]) (t := 35) ?hr ?_; (case hd => rfl); (case hg => rfl); (case hr => first | (go_simp; done) | (go_simp; rfl)); intro ac hg w18 hbox hb; have n0_ := Aside0.mk (below_step bw hb); have n1_ := Aside0.mk (hbox); have n2_ := Aside0.mk ((g1 hg bw : w.heap.size ≤ ac)); have n3_ := Aside0.mk ((g1 hg bw : w.heap.size ≤ ac)); clear HB; have HB := n0_; have aa := n1_; have ay := n2_; have az := n3_; clear n0_ n1_ n2_ n3_; clear hb hbox hg) | ((with_reducible refine gate_callee (f := 23) rfl ?_); refine goesL_ (some 13) rfl rfl Tryd.func23 (by kernel_rfl) rfl #[.string (⟨#[116, 42, 116]⟩ : ByteArray), .string a0] rfl am ?_; (with_reducible refine (codec_Decode.calls k (⟨#[116, 42, 116]⟩ : ByteArray) a0 t215 t216 _ tbk A2.out).mono ?_); rintro e w19 ⟨v217, rfl, ho0, hb⟩; refine ⟨_, rfl, ?_⟩; have n0_ := Aside0.mk (Kd.R_lower ho0 (below_size bw)); have n1_ := Aside0.mk (nb aa.out hb); have n2_ := Aside0.mk (below_step bw hb); clear aa; clear HB; have ab := n0_; have aa := n1_; have HB := n2_; clear n0_ n1_ n2_; (try clear hb); (try clear ho0); obtain ⟨Ao20, a1, eo20⟩ := Kd.R_slice ab.out; subst eo20; have p219 : 0 ≤ (0 : Int) := (by omega); have q219 : 0 < (t215.length : Int) := od; obtain ⟨ap, e219, ah, ai, aj⟩ := at_T58 (Kd.R_reads' ab.out).2.2 0 p219 q219; cases e219; have qi219 : (0 < t215.length) = True := eq_true (by omega); (try rw [show ((0 : Int)).toNat = 0 from rfl] at ah); (try rw [show 0 * 3 = 0 from rfl] at ah); (try rw [Addr.add_zero'] at ah); (try rw [show ((0 : Int)).toNat = 0 from rfl] at ai); (try rw [show 0 * 3 = 0 from rfl] at ai); (try rw [Addr.add_zero'] at ai); (try rw [show ((0 : Int)).toNat = 0 from rfl] at aj); (try rw [show 0 * 3 = 0 from rfl] at aj); (try rw [Addr.add_zero'] at aj); replace p219 := eq_true p219; replace q219 := eq_true q219) | ((with_reducible refine gate_callee (f := 24) rfl ?_); refine goesL_ (some 25) rfl rfl Tryd.func24 (by kernel_rfl) rfl #[.string ((rd_T58 t215 0).f2)] rfl am ?_; (with_reducible refine (view_Decode.calls k ((rd_T58 t215 0).f2) t220 t221 t224 _ tbk A5.out).mono ?_); rintro e w21 ⟨v222, rfl, ho0, hb⟩; refine ⟨_, rfl, ?_⟩; have n0_ := Aside0.mk (Kd.R_below (by (with_reducible repeat (first | apply Kd.R_alloc | apply Kd.R_drewN | apply Kd.R_drew)); exact ab.out) hb); have n1_ := Aside0.mk (Kd.R_lower ho0 (below_size bw)); have n2_ := Aside0.mk (nb aa.out hb); have n3_ := Aside0.mk (below_step bw hb); clear ab; clear aa; clear HB; have ab := n0_; have al := n1_; have aa := n2_; have HB := n3_; clear n0_ n1_ n2_ n3_; (try clear hb); (try clear ho0)) | ((with_reducible refine gate_dst (N := 7) rfl ?_); (try (refine gate_guard (by rfl) ?_; dsimp only)); refine box_event ?hg (N := 7) ?hd (cs := #[.int .i64 0, .slice none 0 0]) (t := 35) ?hr ?_; (case hd => rfl); (case hg => rfl); (case hr => first | (go_simp; done) | (go_simp; rfl)); intro ad hg w22 hbox hb; have n0_ := Aside0.mk (Kd.R_below (by (with_reducible repeat (first | apply Kd.R_alloc | apply Kd.R_drewN | apply Kd.R_drew)); exact ab.out) hb); have n1_ := Aside0.mk (Kd.R_below (by (with_reducible repeat (first | apply Kd.R_alloc | apply Kd.R_drewN | apply Kd.R_drew)); exact al.out) hb); have n2_ := Aside0.mk (nb aa.out hb); have n3_ := Aside0.mk (below_step bw hb); have n4_ := Aside0.mk (hbox); have n5_ := Aside0.mk ((g1 hg bw : w.heap.size ≤ ad)); have n6_ := Aside0.mk ((g1 hg bw : w.heap.size ≤ ad)); have n7_ := Aside0.mk ((n1 hg aa.out : ac ≠ ad)); have n8_ := Aside0.mk ((n2 hg aa.out : ad ≠ ac)); clear ab; clear al; clear aa; clear HB; have ab := n0_; have al := n1_; have aa := n2_; have HB := n3_; have af := n4_; have a3 := n5_; have a4 := n6_; have ag := n7_; have an := n8_; clear n0_ n1_ n2_ n3_ n4_ n5_ n6_ n7_ n8_; clear hb hbox hg; have hnb23 := an.out; have hnc23 := ag.out; obtain ⟨hcz24_0, hcz24_1, hfz24_0, hfz24_1⟩ := bx2 af.out; obtain ⟨ar, au, eo25⟩ := Kd.R_slice al.out; subst eo25) | ((with_reducible refine gate_store (t := 35) (p := 7) rfl ?_); refine store_event (t := 35) (p := 7) (v := ?vo_w26) (w1 := ((w22.setCell ⟨ad, 0, none⟩ (.int .i64 t220)).setCell ⟨ad, 1, none⟩ (.slice ar t221.length au))) ?hg ?ho ?hn ?hr ?_; (case ho => rfl); (case hg => rfl); (case hn => rfl); (case hr => first | (go_simp; done) | (go_simp; rfl)); intro w26 hw; have n0_ : Aside0 (Kd.R k58 58 w26 w.heap.size (fun _ => True) (.slice (some ap) t215.length a1) t215) := ⟨(by rw [hw]; exact (by (with_reducible repeat (first | apply Kd.R_alloc | apply Kd.R_drewN | apply Kd.R_drew)); exact Kd.R_mono (Kd.R_far (p := ⟨ad, 1, none⟩) (Kd.R_far (p := ⟨ad, 0, none⟩) (Kd.R_types ab.out af.out (by decide)) (fun _ hk => hk.2) (.int .i64 t220)) (fun _ hk => hk.2) (.slice ar t221.length au)) (fun _ hk => trivial)))⟩; have n1_ : Aside0 (Kd.R k47 47 w26 w.heap.size (fun _ => True) (.slice ar t221.length au) t221) := ⟨(by rw [hw]; exact (by (with_reducible repeat (first | apply Kd.R_alloc | apply Kd.R_drewN | apply Kd.R_drew)); exact Kd.R_mono (Kd.R_far (p := ⟨ad, 1, none⟩) (Kd.R_far (p := ⟨ad, 0, none⟩) (Kd.R_types al.out af.out (by decide)) (fun _ hk => hk.2) (.int .i64 t220)) (fun _ hk => hk.2) (.slice ar t221.length au)) (fun _ hk => trivial)))⟩; have n2_ : Aside0 (w26.heap[ac]? = some (.cells #[.int .i64 0, .slice none 0 0] 35 (0, 0))) := ⟨(by rw [hw]; exact (by (with_reducible repeat (first | refine blk_drewN ?_ _ | refine blk_drew ?_ | refine blk_alloc ?_ _ | refine blk_far ?_ ag.out _)); exact aa.out))⟩; have n3_ : Aside0 (w26.heap[ad]? = some (.cells #[.int .i64 t220, .slice ar t221.length au] 35 (0, 0))) := ⟨(by rw [hw]; exact (by (with_reducible repeat (first | refine blk_drewN ?_ _ | refine blk_drew ?_ | refine blk_alloc ?_ _)); refine blk_put (cs := #[.int .i64 t220, .slice none 0 0]) ?_ 1 _ rfl; (with_reducible repeat (first | refine blk_drewN ?_ _ | refine blk_drew ?_ | refine blk_alloc ?_ _)); refine blk_put (cs := #[.int .i64 0, .slice none 0 0]) ?_ 0 _ rfl; (with_reducible repeat (first | refine blk_drewN ?_ _ | refine blk_drew ?_ | refine blk_alloc ?_ _)); exact af.out))⟩; have n4_ : Aside0 (Below w.heap.size w w26) := ⟨(by rw [hw]; exact bw)⟩; clear hw; clear ab; clear al; clear aa; clear af; clear HB; have ab := n0_; have al := n1_; have aa := n2_; have af := n3_; have HB := n4_; clear n0_ n1_ n2_ n3_ n4_; have q27 : (1 : Int) ≤ ((t215.length : Int) : Int) := od; obtain ⟨i027, a5, _, a6, _⟩ := info_parts info58; have hcut27 := cut_from (P := Tryd.prog) 50 58 .i64 Tryd.underlying50 a5 3 a6 (some ap) t215.length a1 1 (by omega) q27; have a2 := Kd.Q_drop (k := (1 : Int).toNat) (Kd.Q_of_R ab.out) (by omega); obtain ⟨A27, hA27⟩ : ∃ A1, A1 = (if a1 = (1 : Int).toNat then (some ap) else ((some ap) : Option Addr).map (·.add ((1 : Int).toNat * 3))) := ⟨_, rfl⟩; obtain ⟨c27, hc27⟩ : ∃ c1, c1 = a1 - (1 : Int).toNat := ⟨_, rfl⟩; have hy27 : y226.length = t215.length - (1 : Int).toNat := (by rw [Ny226.out, List.length_drop]); rw [← Ny226.out] at a2; rw [← hy27, ← hA27, ← hc27] at hcut27; replace a2 : Kd.Q k58 58 w26 w.heap.size (fun _ => True) (.slice A27 y226.length c27) y226 := (by rw [hA27, hc27, hy27]; exact a2); have HE27 : Aside0 ((Value.slice A27 y226.length c27).ownBlock = (.slice (some ap) t215.length a1 : Value).ownBlock) := ⟨by rw [hA27]; split <;> (cases ((some ap) : Option Addr) <;> rfl)⟩; clear hy27 a5 a6 ab hA27 hc27; have HO228 := Aside0.mk a2; clear a2; replace q27 := eq_true q27))
 go_loopg [8, 39] k (fun kq v8 v39 w' => ∃ (x8_1 : List ByteArray) (x39_1 : Int), v39 = .int .i64 x39_1 ∧ Aside0 (flush_Decode.l0 kq x8_1 y226 (y226.length : Int) x39_1 t220 t221 = some (r1, r2, r3, r4)) ∧ Aside0 (kq ≤ k) ∧ Aside0 (Kd.R Kd.string 9 w' w.heap.size (fun _ => True) v8 x8_1) ∧ Aside0 (Kd.Q k58 58 w' w.heap.size (fun _ => True) (.slice A27 y226.length c27) y226) ∧ Aside0 (Kd.R k47 47 w' w.heap.size (fun _ => True) (.slice ar t221.length au) t221) ∧ Aside0 (w'.heap[ac]? = some (.cells #[.int .i64 0, (.slice none 0 0)] 35 (0, 0))) ∧ Aside0 (w'.heap[ad]? = some (.cells #[.int .i64 t220, (.slice ar t221.length au)] 35 (0, 0))) ∧ Aside0 (Below w.heap.size w w'))
 case atStart => exact ⟨(([] : List ByteArray)), (0), (by first | rfl | (simp; done) | (simp [*]; done)), H', ⟨Nat.le_refl _⟩, ⟨by first | exact Kd.R_nil _ _ _ _ _ | exact Kd.N_nil _ _ _ _ _ | exact Kd.V_nil _ _ _ _ _ | exact Kd.Q_nil _ _ _ _ _ | exact Kd.S_nil _ _ _ _ _⟩, ⟨by (with_reducible repeat (first | apply Kd.Q_alloc | apply Kd.Q_drewN | apply Kd.Q_drew)); exact HO228.out⟩, ⟨by (with_reducible repeat (first | apply Kd.R_alloc | apply Kd.R_drewN | apply Kd.R_drew)); exact al.out⟩, ⟨by (with_reducible repeat (first | refine blk_drewN ?_ _ | refine blk_drew ?_ | refine blk_alloc ?_ _)); exact aa.out⟩, ⟨by (with_reducible repeat (first | refine blk_drewN ?_ _ | refine blk_drew ?_ | refine blk_alloc ?_ _)); exact af.out⟩, ⟨bw⟩⟩
 case round =>
  clear H'
  try clear c1
  try clear c2
  try clear p2
  try clear q2
  try clear hx2
  try clear qi2
  try clear c3
  try clear a7
  try clear a8
  try clear c4
  try clear c4b0
  try clear c4b1
  try clear c6
  try clear a9
  try clear ba
  try clear c7
  try clear bb
  try clear bc
  try clear c13
  try clear c17
  try clear c17b0
  try clear c17b1
  try clear p21
  try clear q21
  try clear hx21
  try clear qi21
  try clear c23
  try clear c24
  try clear c27
  try clear q27
  try clear hcz14_0 hcz14_1 hcz16_0 hcz16_1 hcz24_0 hcz24_1
  try clear hfz14_0 hfz14_1 hfz16_0 hfz16_1 hfz24_0 hfz24_1
  try clear ah
  try clear ai
  try clear aj
  try clear p219
  try clear q219
  try clear q27
  obtain ⟨x8_1, x39_1, rfl, HA, HK1, av, aq, ak, aa, af, HB⟩ := hrel
  cases gk with
  | zero => exact absurd HA.out (by simp [flush_Decode.l0])
  | succ k1 =>
   have H := HA.out
   clear HA
   simp only [flush_Decode.l0] at H
   by_cases c28 : x39_1 < (y226.length : Int); rotate_left
   ·rw [if_neg c28] at H
    have c28b0 : decide (x39_1 < (y226.length : Int)) = false := decide_eq_false c28
    clear c28
    simp only [Option.some.injEq, Prod.mk.injEq] at H
    obtain ⟨rfl, rfl, rfl, rfl⟩ := H
    have hnb37 := an.out
    have hnc37 := ag.out
    obtain ⟨hcz38_0, hcz38_1, hfz38_0, hfz38_1⟩ := bx2 af.out
    obtain ⟨hcz39_0, hcz39_1, hfz39_0, hfz39_1⟩ := bx2 aa.out
    go_wp2
    refine bodyPost_ret (results_ctt rfl _ _ ac 35 #[.int .i64 t220, .slice ar t221.length au] (0, 0) _ rfl (by (with_reducible repeat (first | refine blk_drewN ?_ _ | refine blk_drew ?_ | refine blk_alloc ?_ _)); refine blk_put (cs := #[.int .i64 t220, .slice none 0 0]) ?_ 1 _ rfl; (with_reducible repeat (first | refine blk_drewN ?_ _ | refine blk_drew ?_ | refine blk_alloc ?_ _)); refine blk_put (cs := #[.int .i64 0, .slice none 0 0]) ?_ 0 _ rfl; (with_reducible repeat (first | refine blk_drewN ?_ _ | refine blk_drew ?_ | refine blk_alloc ?_ _)); exact aa.out) Tryd.underlying35 rfl (by kernel_rfl)) rfl ?_
    exact ⟨_, _, er, by (with_reducible repeat (first | apply Kd.R_alloc | apply Kd.R_drewN | apply Kd.R_drew)); exact Kd.R_mono (Kd.R_far (p := ⟨ac, 1, none⟩) (Kd.R_far (p := ⟨ac, 0, none⟩) (Kd.R_types ak.out aa.out (by decide)) (fun _ hk => hk.2) (.int .i64 t220)) (fun _ hk => hk.2) (.slice ar t221.length au)) (fun _ hk => trivial), by (with_reducible repeat (first | apply Kd.R_alloc | apply Kd.R_drewN | apply Kd.R_drew)); exact Kd.R_mono (Kd.R_far (p := ⟨ac, 1, none⟩) (Kd.R_far (p := ⟨ac, 0, none⟩) (Kd.R_types av.out aa.out (by decide)) (fun _ hk => hk.2) (.int .i64 t220)) (fun _ hk => hk.2) (.slice ar t221.length au)) (fun _ hk => trivial), bw⟩
   rw [if_pos c28] at H
   have c28b0 : decide (x39_1 < (y226.length : Int)) = true := decide_eq_true c28
   clear c28
   by_cases c29 : 0 ≤ x39_1; rotate_left
   ·rw [if_neg c29] at H
    exact absurd H (by simp)
   rw [if_pos c29] at H
   have c29b0 : decide (0 ≤ x39_1) = true := decide_eq_true c29
   clear c29
   by_cases c30 : x39_1 < (y226.length : Int); rotate_left
   ·rw [if_neg c30] at H
    exact absurd H (by simp)
   rw [if_pos c30] at H
   have c30b0 : decide (x39_1 < (y226.length : Int)) = true := decide_eq_true c30
   clear c30
   by_cases c31 : x8_1.length < 8796093022208; rotate_left
   ·rw [if_neg c31] at H
    exact absurd H (by simp)
   rw [if_pos c31] at H
   have LMc31 := Aside0.mk c31
   clear c31
   obtain ⟨y231, hy231⟩ : ∃ y_ : List ByteArray, y_ = (x8_1 ++ [(rd_T58 y226 x39_1).f2]) := ⟨_, rfl⟩
   replace H : (flush_Decode.l0 k1 y231 y226 (y226.length : Int) (wrap64 (x39_1 + 1)) t220 t221) = some (r1, r2, r3, r4) := by first | (rw [hy231]; with_reducible exact H) | (have H2_ := (Option.bind_some _ _).symm.trans H; rw [hy231]; with_reducible exact H2_) | (have H2_ := (Option.bind_some _ _).symm.trans H; with_reducible exact H2_) | with_reducible exact H | (rw [hy231]; exact H) | exact H
   have Ny231 := Aside0.mk hy231
   clear hy231
   have H' := Aside0.mk H
   clear H
   have p229 : 0 ≤ (x39_1 : Int) := od
   have q229 : x39_1 < (y226.length : Int) := od
   obtain ⟨ad229, e229, hx229_0, hx229_1, hx229_2⟩ := at_T58 (Kd.Q_reads' aq.out).2.2 x39_1 p229 q229
   cases e229
   replace p229 := eq_true p229
   replace q229 := eq_true q229
   go_wp2_with (first | ((with_reducible refine gate_dst (N := 10) rfl ?_); (try (refine gate_guard (by rfl) ?_; dsimp only)); refine box_event ?hg (N := 10) ?hd (cs := #[.int .i64 0, .int .u64 0, .string (⟨#[]⟩ : ByteArray)]) (t := 58) ?hr ?_; (case hd => rfl); (case hg => rfl); (case hr => first | (go_simp; done) | (go_simp; rfl)); intro ae hg w32 hbox hb; have n0_ := Aside0.mk (Kd.R_below (by (with_reducible repeat (first | apply Kd.R_alloc | apply Kd.R_drewN | apply Kd.R_drew)); exact av.out) hb); have n1_ := Aside0.mk (Kd.Q_below (Kd.Q_elderB (by (with_reducible repeat (first | apply Kd.Q_alloc | apply Kd.Q_drewN | apply Kd.Q_drew)); exact aq.out) ae (Nat.le_of_eq hg.symm)) hb); have n2_ := Aside0.mk (Kd.R_below (by (with_reducible repeat (first | apply Kd.R_alloc | apply Kd.R_drewN | apply Kd.R_drew)); exact ak.out) hb); have n3_ := Aside0.mk (nb aa.out hb); have n4_ := Aside0.mk (nb af.out hb); have n5_ := Aside0.mk (below_step bw hb); have n6_ := Aside0.mk (hbox); have n7_ := Aside0.mk ((g1 hg bw : w.heap.size ≤ ae)); have n8_ := Aside0.mk ((g1 hg bw : w.heap.size ≤ ae)); have n9_ := Aside0.mk ((n1 hg aa.out : ac ≠ ae)); have bd := Aside0.mk ((n2 hg aa.out : ae ≠ ac)); have be := Aside0.mk ((n1 hg af.out : ad ≠ ae)); have bf := Aside0.mk ((n2 hg af.out : ae ≠ ad)); clear av; clear aq; clear ak; clear aa; clear af; clear HB; have av := n0_; have aq := n1_; have ak := n2_; have aa := n3_; have af := n4_; have HB := n5_; have ao := n6_; have GW230 := n7_; have GE230 := n8_; have aw := n9_; have NB230_214 := bd; have ax := be; have NB230_225 := bf; clear n0_ n1_ n2_ n3_ n4_ n5_ n6_ n7_ n8_ n9_ bd be bf; clear hb hbox hg; have hnb33 := NB230_214.out; have hnc33 := aw.out; have hnb34 := NB230_225.out; have hnc34 := ax.out; obtain ⟨hcz35_0, hcz35_1, hcz35_2, hfz35_0, hfz35_1, hfz35_2⟩ := bx3 ao.out) | ((with_reducible refine gate_builtin (b := .append) (xs := #[.tmp 43, .tmp 46]) rfl ?_); (try (refine gate_guard (by rfl) ?_; dsimp only)); at_builtin; refine Kd.R_append Kd.string (w0 := w) w.heap.size rfl (.tmp 43) (.tmp 46) 23 9 (.string ⟨#[]⟩) 16 rfl Tryd.underlying23 info9 rfl (by decide) (by omega) u8 x8_1 ((rd_T58 y226 x39_1).f2) [.string ((rd_T58 y226 x39_1).f2)] (fun _ => True) (fun _ => False) rfl (by first | (go_simp; done) | (go_simp; rfl)) ?aP (fun _ hk => hk.elim) ?aF ?aO ?aB ?aS ?aL ?_; (case aP => exact rfl); (case aB => exact bw); (case aF => exact (fun _ _ => trivial)); (case aO => exact (by (with_reducible repeat (first | apply Kd.R_alloc | apply Kd.R_drewN | apply Kd.R_drew)); exact Kd.R_mono (Kd.R_far (p := ⟨ae, 2, none⟩) (Kd.R_far (p := ⟨ae, 1, none⟩) (Kd.R_far (p := ⟨ae, 0, none⟩) (Kd.R_types av.out ao.out (by decide)) (fun _ hk => hk.2) (.int .i64 ((rd_T58 y226 x39_1).f0))) (fun _ hk => hk.2) (.int .u64 ((rd_T58 y226 x39_1).f1))) (fun _ hk => hk.2) (.string ((rd_T58 y226 x39_1).f2))) (fun _ hk => trivial))); (case aS => exact (below_size bw)); (case aL => have := LMc31.out; omega); intro v232 w36 ho hb hg hat; rw [← Ny231.out] at ho; have n0_ := Aside0.mk (Kd.Q_over' (by (with_reducible repeat (first | apply Kd.Q_alloc | apply Kd.Q_drewN | apply Kd.Q_drew)); exact (Kd.Q_mono (Kd.Q_far (p := ⟨ae, 2, none⟩) (Kd.Q_far (p := ⟨ae, 1, none⟩) (Kd.Q_far (p := ⟨ae, 0, none⟩) (Kd.Q_mono aq.out (fun k_ hk => (⟨hk, hk.2⟩ : _ ∧ k_ ≠ ae))) (fun _ hk => hk.2) (.int .i64 ((rd_T58 y226 x39_1).f0))) (fun _ hk => hk.2) (.int .u64 ((rd_T58 y226 x39_1).f1))) (fun _ hk => hk.2) (.string ((rd_T58 y226 x39_1).f2))) (fun _ h_ => h_.1))) (Kd.R_typed (by (with_reducible repeat (first | apply Kd.R_alloc | apply Kd.R_drewN | apply Kd.R_drew)); exact (Kd.R_mono (Kd.R_far (p := ⟨ae, 2, none⟩) (Kd.R_far (p := ⟨ae, 1, none⟩) (Kd.R_far (p := ⟨ae, 0, none⟩) (Kd.R_types av.out ao.out (by decide)) (fun _ hk => hk.2) (.int .i64 ((rd_T58 y226 x39_1).f0))) (fun _ hk => hk.2) (.int .u64 ((rd_T58 y226 x39_1).f1))) (fun _ hk => hk.2) (.string ((rd_T58 y226 x39_1).f2))) (fun _ h_ => h_.1)))) (by decide) hg); have n1_ := Aside0.mk (Kd.R_over' (by (with_reducible repeat (first | apply Kd.R_alloc | apply Kd.R_drewN | apply Kd.R_drew)); exact (Kd.R_mono (Kd.R_far (p := ⟨ae, 2, none⟩) (Kd.R_far (p := ⟨ae, 1, none⟩) (Kd.R_far (p := ⟨ae, 0, none⟩) (Kd.R_types ak.out ao.out (by decide)) (fun _ hk => hk.2) (.int .i64 ((rd_T58 y226 x39_1).f0))) (fun _ hk => hk.2) (.int .u64 ((rd_T58 y226 x39_1).f1))) (fun _ hk => hk.2) (.string ((rd_T58 y226 x39_1).f2))) (fun _ h_ => h_.1))) (Kd.R_typed (by (with_reducible repeat (first | apply Kd.R_alloc | apply Kd.R_drewN | apply Kd.R_drew)); exact (Kd.R_mono (Kd.R_far (p := ⟨ae, 2, none⟩) (Kd.R_far (p := ⟨ae, 1, none⟩) (Kd.R_far (p := ⟨ae, 0, none⟩) (Kd.R_types av.out ao.out (by decide)) (fun _ hk => hk.2) (.int .i64 ((rd_T58 y226 x39_1).f0))) (fun _ hk => hk.2) (.int .u64 ((rd_T58 y226 x39_1).f1))) (fun _ hk => hk.2) (.string ((rd_T58 y226 x39_1).f2))) (fun _ h_ => h_.1)))) (by decide) hg); have n2_ := Aside0.mk (blk_grown (g := ac) (o := .cells #[.int .i64 0, .slice none 0 0] 35 (0, 0)) (by (with_reducible repeat (first | refine blk_drewN ?_ _ | refine blk_drew ?_ | refine blk_alloc ?_ _ | refine blk_far ?_ aw.out _)); exact aa.out) hg (Kd.R_ne av.out aa.out (by decide))); have n3_ := Aside0.mk (blk_grown (g := ad) (o := .cells #[.int .i64 t220, .slice ar t221.length au] 35 (0, 0)) (by (with_reducible repeat (first | refine blk_drewN ?_ _ | refine blk_drew ?_ | refine blk_alloc ?_ _ | refine blk_far ?_ ax.out _)); exact af.out) hg (Kd.R_ne av.out af.out (by decide))); have n4_ := Aside0.mk (blk_grown (g := ae) (o := .cells #[.int .i64 ((rd_T58 y226 x39_1).f0), .int .u64 ((rd_T58 y226 x39_1).f1), .string ((rd_T58 y226 x39_1).f2)] 58 (0, 0)) (by (with_reducible repeat (first | refine blk_drewN ?_ _ | refine blk_drew ?_ | refine blk_alloc ?_ _)); refine blk_put (cs := #[.int .i64 ((rd_T58 y226 x39_1).f0), .int .u64 ((rd_T58 y226 x39_1).f1), .string (⟨#[]⟩ : ByteArray)]) ?_ 2 _ rfl; (with_reducible repeat (first | refine blk_drewN ?_ _ | refine blk_drew ?_ | refine blk_alloc ?_ _)); refine blk_put (cs := #[.int .i64 ((rd_T58 y226 x39_1).f0), .int .u64 0, .string (⟨#[]⟩ : ByteArray)]) ?_ 1 _ rfl; (with_reducible repeat (first | refine blk_drewN ?_ _ | refine blk_drew ?_ | refine blk_alloc ?_ _)); refine blk_put (cs := #[.int .i64 0, .int .u64 0, .string (⟨#[]⟩ : ByteArray)]) ?_ 0 _ rfl; (with_reducible repeat (first | refine blk_drewN ?_ _ | refine blk_drew ?_ | refine blk_alloc ?_ _)); exact ao.out) hg (Kd.R_ne av.out ao.out (by decide))); have n5_ := Aside0.mk (hb); have n6_ := Aside0.mk (ho); clear aq; clear ak; clear aa; clear af; clear ao; clear HB; clear av; have aq := n0_; have ak := n1_; have aa := n2_; have af := n3_; have ao := n4_; have HB := n5_; have HO233 := n6_; clear n0_ n1_ n2_ n3_ n4_ n5_ n6_; clear ho hb hg hat))
   go_roundg k1
   case measure => have := HK1.out; omega
   case rel => exact ⟨(y231), (wrap64 (x39_1 + 1)), (by first | rfl | (simp; done) | (simp [*]; done)), H', ⟨by have := HK1.out; omega⟩, ⟨by (with_reducible repeat (first | apply Kd.R_alloc | apply Kd.R_drewN | apply Kd.R_drew)); exact HO233.out⟩, ⟨by (with_reducible repeat (first | apply Kd.Q_alloc | apply Kd.Q_drewN | apply Kd.Q_drew)); exact Kd.Q_mono aq.out (fun _ hk => trivial)⟩, ⟨by (with_reducible repeat (first | apply Kd.R_alloc | apply Kd.R_drewN | apply Kd.R_drew)); exact ak.out⟩, ⟨by (with_reducible repeat (first | refine blk_drewN ?_ _ | refine blk_drew ?_ | refine blk_alloc ?_ _)); exact aa.out⟩, ⟨by (with_reducible repeat (first | refine blk_drewN ?_ _ | refine blk_drew ?_ | refine blk_alloc ?_ _)); exact af.out⟩, ⟨bw⟩⟩

end Go.Proofs.YtokebimfflobbaaDoor.P
