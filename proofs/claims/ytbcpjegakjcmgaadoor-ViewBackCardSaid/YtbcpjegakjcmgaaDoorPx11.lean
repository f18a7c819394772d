-- Printed by this session's program wip/xp.py (a turned copy of the kit's printer): functions, their contracts.
import Derived.Test.YtbcpjegakjcmgaaDoorPx0
import Derived.Test.YtbcpjegakjcmgaaDoorPx2
import Derived.Test.YtbcpjegakjcmgaaDoorPx10
namespace Go.Proofs.YtbcpjegakjcmgaaDoor.P
open Go.RowKit Go.Proofs.YtbcpjegakjcmgaaDoorW.PrintWords Go.Proofs.YtbcpjegakjcmgaaDoorW.PrintLast Go.Proofs.YtbcpjegakjcmgaaDoorW.PrintMore
attribute [local go_sem] max2_int min2_int max_two min_two max_three min_three max_four min_four   -- for this text's walks alone
set_option linter.unusedVariables false
set_option linter.unusedSimpArgs false

/-! ### api_Item_22: function 22 -/
def grt (x : S50) : Bool := decide (9007199254740991 < x.f1)
set_option maxHeartbeats 4000000 in
set_option maxRecDepth 100000 in
theorem grt_calls (x : S50) (w : World) : Calls Tryd.prog 23 #[.agg #[.int .i64 x.f0, .int .u64 x.f1, .string x.f2]] w fun e w' => e = .returned (.bool (grt x)) ∧ Below w.heap.size w w' := by
 have HB := Aside0.mk (Below.refl w.heap.size w)
 unfold grt
 go_enter Tryd.func23, Tryd.ntmps23
 go_wp2
 go_ret
 exact ⟨rfl, bw⟩
theorem idxItem (A0 : Option Addr) (c0 : Nat) (l0 : List (S50)) (w : World) (hr0 : Kd.C k50 w A0 l0.length l0) (hn : l0.length < 4611686018427387904) :
  Calls Tryd.prog 35 #[.slice A0 l0.length c0, .func (.func 23) #[] #[]] w fun e w' => ∃ r : Int, e = .returned (.int .i64 r) ∧ decide (0 ≤ r) = l0.any grt ∧ Below w.heap.size w w' := by
 have HR0 := Aside0.mk hr0
 have HN := Aside0.mk hn
 clear hr0 hn
 go_enter Tryd.func35, Tryd.ntmps35
 go_wp2
 go_loopg [4, 8] (l0.length + 1) (fun kq v4 v8 w' => ∃ (n : Nat), v8 = .int .i64 (n : Int) ∧ n ≤ l0.length ∧ kq + n = l0.length + 1 ∧ Aside0 (∀ x ∈ l0.take n, grt x = false) ∧ Aside0 (Below w.heap.size w w'))
 case atStart => exact ⟨0, rfl, Nat.zero_le _, by omega, ⟨by simp⟩, ⟨Below.refl _ _⟩⟩
 case round =>
  obtain ⟨n, rfl, hnl, hkq, HA, HB⟩ := hrel
  cases gk with
  | zero => exact absurd hkq (by omega)
  | succ k1 =>
   have hn := HN.out
   by_cases hlt : n < l0.length
   ·have c3b0 : decide ((n : Int) < (l0.length : Int)) = true := decide_eq_true (by omega)
    have c3b1 : decide (n < l0.length) = true := decide_eq_true hlt
    obtain ⟨ad, e0, hx0, hx1, hx2⟩ := at_T50 HR0.out (n : Int) (by omega) (by omega)
    cases e0
    rw [show (n : Int).toNat = n from rfl] at hx0 hx1 hx2
    replace hx0 := (HB.out.cell (World.block_lt_of_cell? w _ hx0)).trans hx0
    replace hx1 := (HB.out.cell (World.block_lt_of_cell? w _ hx1)).trans hx1
    replace hx2 := (HB.out.cell (World.block_lt_of_cell? w _ hx2)).trans hx2
    have p127 := eq_true (show (0 : Int) ≤ (n : Int) by omega)
    have q127 := eq_true (show (n : Int) < (l0.length : Int) by omega)
    have HX : Aside0 (l0.take (n + 1) = l0.take n ++ [rd_T50 l0 (n : Int)]) := ⟨by
     rw [List.take_succ_eq_append_getElem hlt]
     simp [rd_T50, List.getD_eq_getElem?_getD, List.getElem?_eq_getElem hlt]⟩
    generalize rd_T50 l0 (n : Int) = x at hx0 hx1 hx2 HX
    have ew : ((n : Int) + 1 + 9223372036854775808) % 18446744073709551616 - 9223372036854775808 = ((n + 1 : Nat) : Int) := by omega
    go_wp2_with (go_at_call 23; refine (grt_calls x _).mono ?_)
    rintro e w9 ⟨rfl, hb9⟩
    have HB9 := Aside0.mk (show Below w.heap.size w w9 from HB.out.trans (hb9.mono HB.out.size))
    clear hb9
    by_cases hg : grt x = true
    ·have HE : Aside0 (l0.any grt = true) := ⟨by
      rw [List.any_eq_true]
      exact ⟨x, List.mem_of_mem_take (i := n + 1) (by rw [HX.out]; simp), hg⟩⟩
     rw [hg]
     go_wp2
     go_ret
     exact ⟨(n : Int), rfl, by rw [HE.out]; exact decide_eq_true (by omega), HB9.out⟩
    ·have hg2 : grt x = false := by simpa using hg
     have HA2 : Aside0 (∀ y ∈ l0.take (n + 1), grt y = false) := ⟨by
      rw [HX.out]
      intro y hy
      rcases List.mem_append.1 hy with hy | hy
      ·exact HA.out y hy
      ·obtain rfl := List.mem_singleton.1 hy; exact hg2⟩
     rw [hg2]
     clear hg
     go_wp2
     go_roundg k1
     case rel => exact ⟨n + 1, by go_num, by omega, by omega, HA2, HB9⟩
     case measure => exact Nat.lt_succ_self _
   ·obtain rfl : n = l0.length := by omega
    have c3b0 : decide ((l0.length : Int) < (l0.length : Int)) = false := decide_eq_false (by omega)
    have HE : Aside0 (l0.any grt = false) := ⟨by
     rw [List.any_eq_false]
     intro x hx
     have := HA.out x (by rwa [List.take_length])
     simp [this]⟩
    go_wp2
    go_ret
    exact ⟨-1, rfl, by rw [HE.out]; decide, HB.out⟩
def api_Item_22.f (l0 : List (S50)) (F : Value) : Option Bool := match F with
 | .func (.func n) ⟨[]⟩ ⟨[]⟩ => if n = 23 ∧ l0.length < 4611686018427387904 then some (l0.any grt) else none
 | _ => none
set_option maxHeartbeats 4000000 in
set_option maxRecDepth 100000 in
theorem api_Item_22.calls (A0 : Option Addr) (c0 : Nat) (l0 : List (S50)) (F : Value) (r1 : Bool) (w : World) (hr0 : Kd.C k50 w A0 l0.length l0) (hc0 : l0.length ≤ c0) (h : api_Item_22.f l0 F = some r1) :
  Calls Tryd.prog 22 #[.slice A0 l0.length c0, F] w fun e w' => e = .returned (.bool r1) ∧ Below w.heap.size w w' := by
 unfold api_Item_22.f at h
 split at h
 case h_2 => exact absurd h (by simp)
 rename_i n
 by_cases g : n = 23 ∧ l0.length < 4611686018427387904
 case neg => rw [if_neg g] at h; exact absurd h (by simp)
 rw [if_pos g] at h
 obtain ⟨rfl, hn⟩ := g
 obtain rfl := Option.some.inj h
 clear h
 have HI := Aside0.mk (idxItem A0 c0 l0 w hr0 hn)
 clear hr0 hn
 go_enter Tryd.func22, Tryd.ntmps22
 go_wp2_with (go_at_call 35; refine (HI.out).mono ?_)
 rintro e w1 ⟨r, rfl, hr, hb⟩
 have HB := Aside0.mk hb
 clear hb
 have HR := Aside0.mk hr
 clear hr
 go_wp2
 go_ret
 exact ⟨congrArg (fun b => Ending.returned (.bool b)) HR.out, HB.out⟩

/-! ### view_Decode: function 8 -/
def view_Decode.l0 : Nat → List (S50) → Int → Int → List (S38) → Option (Int × (List (S38)) × Int)
 | 0, _, _, _, _ => none
 | k + 1, x4, x7, x279000, x279001 => if x7 < (x4.length : Int) then (if 0 ≤ x7 then (if 0 ≤ (wrap64 (x7 + 1)) then (if (wrap64 (x7 + 1)) < (x4.length : Int) then (if x279001.length < 8796093022208 then (view_Decode.l0 k x4 (wrap64 (x7 + 2)) x279000 (x279001 ++ [(⟨wrap64 ((rd_T50 x4 x7).f1), wrap64 ((rd_T50 x4 (wrap64 (x7 + 1))).f1)⟩ : S38)])) else (none)) else (none)) else (none)) else (none)) else ((view_Right.f k x279000 x279001).bind fun t284 => (if t284 = true then (some (x279000, x279001, 0)) else (some (0, ([] : List (S38)), 10))))
def view_Decode.f (k : Nat) (a0 : ByteArray) : Option (Int × (List (S38)) × Int) := (codec_Decode.f k (⟨#[108, 42, 98, 108]⟩ : ByteArray) a0).bind fun bt272 => (if bt272.2 = 0 then ((api_Item_22.f bt272.1 (.func (.func 23) #[] #[] : Value)).bind fun t276 => (if t276 = true then (some (0, ([] : List (S38)), 10)) else (if 0 < (bt272.1.length : Int) then (view_Decode.l0 k bt272.1 1 (wrap64 ((rd_T50 bt272.1 0).f1)) ([] : List (S38))) else (none)))) else (some (0, ([] : List (S38)), bt272.2)))
theorem view_Decode.mono_l : ∀ k, (∀ y0 y1 y2 y3, LeO (view_Decode.l0 k y0 y1 y2 y3) (view_Decode.l0 (k + 1) y0 y1 y2 y3))
 | 0 => fun _ _ _ _ r h => by simp [view_Decode.l0] at h
 | k + 1 => by
  have ih0 := view_Decode.mono_l k
  ·intro y0 y1 y2 y3
   unfold view_Decode.l0
   repeat' first
   | (with_reducible exact ih0 _ _ _ _)
   | (with_reducible exact codec_Decode.mono _ _ _)
   | (with_reducible exact view_Right.mono _ _ _)
   | (with_reducible exact LeO.refl _)
   | (with_reducible exact LeO.none _)
   | (with_reducible refine LeO.ite ?_ ?_)
   | (with_reducible refine LeO.bind ?_ (fun _ => ?_))
   | exact ih0 _ _ _ _
   | exact codec_Decode.mono _ _ _
   | exact view_Right.mono _ _ _
   | exact LeO.none _
   | refine LeO.ite ?_ ?_
   | refine LeO.bind ?_ (fun _ => ?_)
theorem view_Decode.mono : ∀ a0 k, LeO (view_Decode.f k a0) (view_Decode.f (k + 1) a0) := by
 intro a0 k
 have ih0 := view_Decode.mono_l k
 unfold view_Decode.f
 repeat' first
   | (with_reducible exact ih0 _ _ _ _)
   | (with_reducible exact codec_Decode.mono _ _ _)
   | (with_reducible exact view_Right.mono _ _ _)
   | (with_reducible exact LeO.refl _)
   | (with_reducible exact LeO.none _)
   | (with_reducible refine LeO.ite ?_ ?_)
   | (with_reducible refine LeO.bind ?_ (fun _ => ?_))
   | exact ih0 _ _ _ _
   | exact codec_Decode.mono _ _ _
   | exact view_Right.mono _ _ _
   | exact LeO.none _
   | refine LeO.ite ?_ ?_
   | refine LeO.bind ?_ (fun _ => ?_)
def view_Decode.T10 : Bool × List (List Nat × List Nat) := (true, [([], []), ([0], [0]), ([], []), ([], []), ([2, 3], [2, 3]), ([4], [4]), ([5], [5]), ([6], [6]), ([], []), ([], []), ([9], [9]), ([8, 10], [8, 10]), ([11], [11]), ([12], [12]), ([13], [13]), ([7, 14], [7, 14]), ([15], [15]), ([1, 16], [1, 16]), ([0, 1, 2, 3, 4, 5, 6, 7, 8, 9, 10, 11, 12, 13, 14, 15, 16, 17], []), ([18, 17, 17, 0, 1, 2, 3, 4, 5, 6, 7, 8, 9, 10, 11, 12, 13, 14, 15, 16, 17], [17, 18])])
def view_Decode.B10 : List Nat := [0, 1, 0, 0, 12, 28, 60, 124, 0, 0, 512, 1792, 3840, 7936, 16128, 32764, 65532, 131071, 262143, 524287]
theorem view_Decode.tab10 : rtab .any (opsOf Tryd.f8 10) = view_Decode.T10 := by kernel_rfl
theorem view_Decode.bits10 : waitsOk view_Decode.T10.2 view_Decode.B10 = true := by kernel_rfl
set_option maxHeartbeats 8000000 in
set_option maxRecDepth 100000 in
theorem view_Decode.calls (k : Nat) (a0 : ByteArray) (r1 : Int) (r2 : List (S38)) (r3 : Int) (w : World) (HT_ : TabOk w) (h : view_Decode.f k a0 = some (r1, r2, r3)) :
  Calls Tryd.prog 8 #[.string a0] w fun e w' => ∃ v1_ : Value, e = .returned (.tuple #[.agg #[.int .i64 r1, v1_], .int .i64 r3]) ∧ Kd.R k38 38 w' w.heap.size (fun _ => True) v1_ r2 ∧ Below w.heap.size w w' := by
 have HT := Aside0.mk HT_
 clear HT_
 have hu24 := Tryd.underlying24
 have hu38 := Tryd.underlying38
 have HB := Aside0.mk (Below.refl w.heap.size w)
 have H : ((codec_Decode.f k (⟨#[108, 42, 98, 108]⟩ : ByteArray) a0).bind fun bt272 => (if bt272.2 = 0 then ((api_Item_22.f bt272.1 (.func (.func 23) #[] #[] : Value)).bind fun t276 => (if t276 = true then (some (0, ([] : List (S38)), 10)) else (if 0 < (bt272.1.length : Int) then (view_Decode.l0 k bt272.1 1 (wrap64 ((rd_T50 bt272.1 0).f1)) ([] : List (S38))) else (none)))) else (some (0, ([] : List (S38)), bt272.2)))) = some (r1, r2, r3) := h
 clear h
 replace H := Option.bind_eq_some_iff.mp H
 obtain ⟨⟨t272, t273⟩, A20, H⟩ := H
 replace H : (if t273 = 0 then ((api_Item_22.f t272 (.func (.func 23) #[] #[] : Value)).bind fun t276 => (if t276 = true then (some (0, ([] : List (S38)), 10)) else (if 0 < (t272.length : Int) then (view_Decode.l0 k t272 1 (wrap64 ((rd_T50 t272 0).f1)) ([] : List (S38))) else (none)))) else (some (0, ([] : List (S38)), t273))) = some (r1, r2, r3) := H
 have A2 := Aside0.mk A20
 clear A20
 by_cases c3 : t273 = 0
 ·rw [if_pos c3] at H
  have c3b0 : (t273 == 0) = true := beq_iff_eq.mpr c3
  have c3b1 : (t273 != 0) = false := bne_eq_false_iff_eq.mpr c3
  clear c3
  replace H := Option.bind_eq_some_iff.mp H
  obtain ⟨t276, A40, H⟩ := H
  replace H : (if t276 = true then (some (0, ([] : List (S38)), 10)) else (if 0 < (t272.length : Int) then (view_Decode.l0 k t272 1 (wrap64 ((rd_T50 t272 0).f1)) ([] : List (S38))) else (none))) = some (r1, r2, r3) := H
  have A4 := Aside0.mk A40
  clear A40
  by_cases c5 : t276 = true
  ·subst c5
   have H1 : (some (0, ([] : List (S38)), 10)) = some (r1, r2, r3) := by rw [if_pos rfl] at H; exact H
   clear H
   have H := H1
   clear H1
   simp only [Option.some.injEq, Prod.mk.injEq] at H
   obtain ⟨rfl, rfl, rfl⟩ := H
   go_enter Tryd.func8, Tryd.ntmps8
   go_wp2_with (first | ((with_reducible refine gate_dst (N := 2) rfl ?_); refine box_event ?hg (N := 2) ?hd (cs := #[.int .i64 0, .slice none 0 0]) (t := 24) ?hr ?_; (case hd => rfl); (case hg => rfl); (case hr => first | (go_simp; done) | (go_simp; rfl)); intro gb271 hg w6 hbox hb; have n0_ := Aside0.mk (below_step bw hb); have n1_ := Aside0.mk (hbox); have n2_ := Aside0.mk ((g1 hg bw : w.heap.size ≤ gb271)); have n3_ := Aside0.mk ((g1 hg bw : w.heap.size ≤ gb271)); clear HB; have HB := n0_; have BK271 := n1_; have GW271 := n2_; have GE271 := n3_; clear n0_ n1_ n2_ n3_; clear hb hbox hg) | ((with_reducible refine gate_callee (f := 21) rfl ?_); refine goesL_ (some 10) rfl rfl Tryd.func21 (by kernel_rfl) rfl #[.string (⟨#[108, 42, 98, 108]⟩ : ByteArray), .string a0] rfl am ?_; (with_reducible refine (codec_Decode.calls k (⟨#[108, 42, 98, 108]⟩ : ByteArray) a0 t272 t273 _ tbk A2.out).mono ?_); rintro e w7 ⟨v274, rfl, ho0, hb⟩; refine ⟨_, rfl, ?_⟩; have n0_ := Aside0.mk (Kd.R_lower ho0 (below_size bw)); have n1_ := Aside0.mk (nb BK271.out hb); have n2_ := Aside0.mk (below_step bw hb); clear BK271; clear HB; have HO275 := n0_; have BK271 := n1_; have HB := n2_; clear n0_ n1_ n2_; (try clear hb); (try clear hb2); (try clear hk); (try clear hi); (try clear ho0); obtain ⟨Ao8, co8, eo8⟩ := Kd.R_slice HO275.out; subst eo8) | ((with_reducible refine gate_callee (f := 22) rfl ?_); refine goesL_ (some 18) rfl rfl Tryd.func22 (by kernel_rfl) rfl #[.slice Ao8 t272.length co8, (.func (.func 23) #[] #[] : Value)] rfl am ?_; (with_reducible refine (api_Item_22.calls _ _ t272 (.func (.func 23) #[] #[] : Value) true _ ?side1 ?side2 A4.out).mono ?_); (case side1 => repeat (first | exact (Kd.R_reads' HO275.out).2.2 | (with_reducible refine Kd.C_alloc ?_ _) | (with_reducible refine Kd.C_drewN ?_ _) | (with_reducible refine Kd.C_drew ?_))); (case side2 => exact (Kd.R_reads' HO275.out).2.1); rintro e w9 ⟨rfl, hb⟩; refine ⟨_, rfl, ?_⟩; have n0_ := Aside0.mk (Kd.R_below (by (with_reducible repeat (first | apply Kd.R_alloc | apply Kd.R_drewN | apply Kd.R_drew)); exact HO275.out) hb); have n1_ := Aside0.mk (nb BK271.out hb); have n2_ := Aside0.mk (below_step bw hb); clear HO275; clear BK271; clear HB; have HO275 := n0_; have BK271 := n1_; have HB := n2_; clear n0_ n1_ n2_; (try clear hb); (try clear hb2); (try clear hk); (try clear hi); have hcz10_0 := bc2_0 BK271.out; have hcz10_1 := bc2_1 BK271.out; have hfz10_0 := blk_frozen BK271.out 0; have hfz10_1 := blk_frozen BK271.out 1))
   refine bodyPost_ret (results_ct rfl _ _ gb271 24 #[.int .i64 0, .slice none 0 0] (0, 0) _ rfl (by (with_reducible repeat (first | refine blk_drewN ?_ _ | refine blk_drew ?_ | refine blk_alloc ?_ _)); refine blk_put (cs := #[.int .i64 0, .slice none 0 0]) ?_ 1 _ rfl; (with_reducible repeat (first | refine blk_drewN ?_ _ | refine blk_drew ?_ | refine blk_alloc ?_ _)); refine blk_put (cs := #[.int .i64 0, .slice none 0 0]) ?_ 0 _ rfl; (with_reducible repeat (first | refine blk_drewN ?_ _ | refine blk_drew ?_ | refine blk_alloc ?_ _)); exact BK271.out) Tryd.underlying24 rfl (by kernel_rfl)) rfl ?_
   exact ⟨_, er, by first | exact Kd.R_nil _ _ _ _ _ | exact Kd.N_nil _ _ _ _ _ | exact Kd.V_nil _ _ _ _ _ | exact Kd.Q_nil _ _ _ _ _ | exact Kd.S_nil _ _ _ _ _, bw⟩
  ·replace c5 := Bool.eq_false_iff.mpr c5
   subst c5
   have H1 : (if 0 < (t272.length : Int) then (view_Decode.l0 k t272 1 (wrap64 ((rd_T50 t272 0).f1)) ([] : List (S38))) else (none)) = some (r1, r2, r3) := by rw [if_neg (show ¬ (false = true) by decide)] at H; exact H
   clear H
   have H := H1
   clear H1
   by_cases c11 : 0 < (t272.length : Int)
   ·rw [if_pos c11] at H
    have c11b0 : decide (0 < (t272.length : Int)) = true := decide_eq_true c11
    have c11b1 : decide (0 < t272.length) = true := decide_eq_true (by omega)
    clear c11
    have H' := Aside0.mk H
    clear H
    go_enter Tryd.func8, Tryd.ntmps8
    go_wp2_with (first | ((with_reducible refine gate_dst (N := 2) rfl ?_); refine box_event ?hg (N := 2) ?hd (cs := #[.int .i64 0, .slice none 0 0]) (t := 24) ?hr ?_; (case hd => rfl); (case hg => rfl); (case hr => first | (go_simp; done) | (go_simp; rfl)); intro gb271 hg w12 hbox hb; have n0_ := Aside0.mk (below_step bw hb); have n1_ := Aside0.mk (hbox); have n2_ := Aside0.mk ((g1 hg bw : w.heap.size ≤ gb271)); have n3_ := Aside0.mk ((g1 hg bw : w.heap.size ≤ gb271)); clear HB; have HB := n0_; have BK271 := n1_; have GW271 := n2_; have GE271 := n3_; clear n0_ n1_ n2_ n3_; clear hb hbox hg) | ((with_reducible refine gate_callee (f := 21) rfl ?_); refine goesL_ (some 10) rfl rfl Tryd.func21 (by kernel_rfl) rfl #[.string (⟨#[108, 42, 98, 108]⟩ : ByteArray), .string a0] rfl am ?_; (with_reducible refine (codec_Decode.calls k (⟨#[108, 42, 98, 108]⟩ : ByteArray) a0 t272 t273 _ tbk A2.out).mono ?_); rintro e w13 ⟨v274, rfl, ho0, hb⟩; refine ⟨_, rfl, ?_⟩; have n0_ := Aside0.mk (Kd.R_lower ho0 (below_size bw)); have n1_ := Aside0.mk (nb BK271.out hb); have n2_ := Aside0.mk (below_step bw hb); clear BK271; clear HB; have HO275 := n0_; have BK271 := n1_; have HB := n2_; clear n0_ n1_ n2_; (try clear hb); (try clear hb2); (try clear hk); (try clear hi); (try clear ho0); obtain ⟨Ao14, co14, eo14⟩ := Kd.R_slice HO275.out; subst eo14) | ((with_reducible refine gate_callee (f := 22) rfl ?_); refine goesL_ (some 18) rfl rfl Tryd.func22 (by kernel_rfl) rfl #[.slice Ao14 t272.length co14, (.func (.func 23) #[] #[] : Value)] rfl am ?_; (with_reducible refine (api_Item_22.calls _ _ t272 (.func (.func 23) #[] #[] : Value) false _ ?side1 ?side2 A4.out).mono ?_); (case side1 => repeat (first | exact (Kd.R_reads' HO275.out).2.2 | (with_reducible refine Kd.C_alloc ?_ _) | (with_reducible refine Kd.C_drewN ?_ _) | (with_reducible refine Kd.C_drew ?_))); (case side2 => exact (Kd.R_reads' HO275.out).2.1); rintro e w15 ⟨rfl, hb⟩; refine ⟨_, rfl, ?_⟩; have n0_ := Aside0.mk (Kd.R_below (by (with_reducible repeat (first | apply Kd.R_alloc | apply Kd.R_drewN | apply Kd.R_drew)); exact HO275.out) hb); have n1_ := Aside0.mk (nb BK271.out hb); have n2_ := Aside0.mk (below_step bw hb); clear HO275; clear BK271; clear HB; have HO275 := n0_; have BK271 := n1_; have HB := n2_; clear n0_ n1_ n2_; (try clear hb); (try clear hb2); (try clear hk); (try clear hi); have p277 : 0 ≤ (0 : Int) := (by omega); have q277 : 0 < (t272.length : Int) := of_decide_eq_true (by first | (with_reducible assumption) | assumption); obtain ⟨ad277, e277, hx277_0, hx277_1, hx277_2⟩ := at_T50 (Kd.R_reads' HO275.out).2.2 0 p277 q277; cases e277; have qi277 : (0 < t272.length) = True := eq_true (by omega); (try rw [show ((0 : Int)).toNat = 0 from rfl] at hx277_0); (try rw [show 0 * 3 = 0 from rfl] at hx277_0); (try rw [Addr.add_zero'] at hx277_0); (try rw [show ((0 : Int)).toNat = 0 from rfl] at hx277_1); (try rw [show 0 * 3 = 0 from rfl] at hx277_1); (try rw [Addr.add_zero'] at hx277_1); (try rw [show ((0 : Int)).toNat = 0 from rfl] at hx277_2); (try rw [show 0 * 3 = 0 from rfl] at hx277_2); (try rw [Addr.add_zero'] at hx277_2); replace p277 := eq_true p277; replace q277 := eq_true q277) | ((with_reducible refine gate_dst (N := 6) rfl ?_); refine box_event ?hg (N := 6) ?hd (cs := #[.int .i64 0, .slice none 0 0]) (t := 24) ?hr ?_; (case hd => rfl); (case hg => rfl); (case hr => first | (go_simp; done) | (go_simp; rfl)); intro gb278 hg w16 hbox hb; have n0_ := Aside0.mk (Kd.R_below (by (with_reducible repeat (first | apply Kd.R_alloc | apply Kd.R_drewN | apply Kd.R_drew)); exact HO275.out) hb); have n1_ := Aside0.mk (nb BK271.out hb); have n2_ := Aside0.mk (below_step bw hb); have n3_ := Aside0.mk (hbox); have n4_ := Aside0.mk ((g1 hg bw : w.heap.size ≤ gb278)); have n5_ := Aside0.mk ((g1 hg bw : w.heap.size ≤ gb278)); have n6_ := Aside0.mk ((n1 hg BK271.out : gb271 ≠ gb278)); have n7_ := Aside0.mk ((n2 hg BK271.out : gb278 ≠ gb271)); clear HO275; clear BK271; clear HB; have HO275 := n0_; have BK271 := n1_; have HB := n2_; have BK278 := n3_; have GW278 := n4_; have GE278 := n5_; have NB271_278 := n6_; have NB278_271 := n7_; clear n0_ n1_ n2_ n3_ n4_ n5_ n6_ n7_; clear hb hbox hg; have hnb17 := NB278_271.out; have hnc17 := NB271_278.out; have hcz18_0 := bc2_0 BK278.out; have hcz18_1 := bc2_1 BK278.out; have hfz18_0 := blk_frozen BK278.out 0; have hfz18_1 := blk_frozen BK278.out 1))
    go_loopg [7] k (fun kq v7 w' => ∃ (x7_1 : Int) (x279001_1 : List (S38)) (u279001 : Value), v7 = .int .i64 x7_1 ∧ Aside0 (view_Decode.l0 kq t272 x7_1 (wrap64 ((rd_T50 t272 0).f1)) x279001_1 = some (r1, r2, r3)) ∧ Aside0 (kq ≤ k) ∧ Aside0 (Kd.R k50 50 w' w.heap.size (fun _ => True) (.slice (some ad277) t272.length co14) t272) ∧ Aside0 (Kd.R k38 38 w' w.heap.size (fun _ => True) u279001 x279001_1) ∧ Aside0 (w'.heap[gb271]? = some (.cells #[.int .i64 0, (.slice none 0 0)] 24 (0, 0))) ∧ Aside0 (w'.heap[gb278]? = some (.cells #[.int .i64 (wrap64 ((rd_T50 t272 0).f1)), u279001] 24 (0, 0))) ∧ Aside0 (Below w.heap.size w w'))
    case atStart => exact ⟨(1), (([] : List (S38))), (.slice none 0 0), (by first | rfl | (simp; done) | (simp [*]; done)), H', ⟨Nat.le_refl _⟩, ⟨by (with_reducible repeat (first | apply Kd.R_alloc | apply Kd.R_drewN | apply Kd.R_drew)); exact Kd.R_mono (Kd.R_far (p := ⟨gb278, 1, none⟩) (Kd.R_far (p := ⟨gb278, 0, none⟩) (Kd.R_types HO275.out BK278.out (by decide)) (fun _ hk => hk.2) (.int .i64 (wrap64 ((rd_T50 t272 0).f1)))) (fun _ hk => hk.2) (.slice none 0 0)) (fun _ hk => trivial)⟩, ⟨by first | exact Kd.R_nil _ _ _ _ _ | exact Kd.N_nil _ _ _ _ _ | exact Kd.V_nil _ _ _ _ _ | exact Kd.Q_nil _ _ _ _ _ | exact Kd.S_nil _ _ _ _ _⟩, ⟨by (with_reducible repeat (first | refine blk_drewN ?_ _ | refine blk_drew ?_ | refine blk_alloc ?_ _ | refine blk_far ?_ NB271_278.out _)); exact BK271.out⟩, ⟨by (with_reducible repeat (first | refine blk_drewN ?_ _ | refine blk_drew ?_ | refine blk_alloc ?_ _)); refine blk_put (cs := #[.int .i64 (wrap64 ((rd_T50 t272 0).f1)), .slice none 0 0]) ?_ 1 _ rfl; (with_reducible repeat (first | refine blk_drewN ?_ _ | refine blk_drew ?_ | refine blk_alloc ?_ _)); refine blk_put (cs := #[.int .i64 0, .slice none 0 0]) ?_ 0 _ rfl; (with_reducible repeat (first | refine blk_drewN ?_ _ | refine blk_drew ?_ | refine blk_alloc ?_ _)); exact BK278.out⟩, ⟨bw⟩⟩
    case round =>
     clear H'
     try clear c1
     try clear c2
     try clear p2
     try clear q2
     try clear hx2
     try clear qi2
     try clear c3
     try clear c3b0
     try clear c3b1
     try clear c5
     try clear p6
     try clear c8
     try clear c11
     try clear c11b0
     try clear c11b1
     try clear c17
     try clear hcz10_0
     try clear hcz10_1
     try clear hcz18_0
     try clear hcz18_1
     try clear hfz10_0
     try clear hfz10_1
     try clear hfz18_0
     try clear hfz18_1
     try clear hx277_0
     try clear hx277_1
     try clear hx277_2
     try clear p277
     try clear q277
     obtain ⟨x7_1, x279001_1, u279001, rfl, HA, HK1, HO_4, HO_279001, BK271, BK278, HB⟩ := hrel
     cases gk with
     | zero => exact absurd HA.out (by simp [view_Decode.l0])
     | succ k1 =>
      have H := HA.out
      clear HA
      simp only [view_Decode.l0] at H
      by_cases c19 : x7_1 < (t272.length : Int)
      ·rw [if_pos c19] at H
       have c19b0 : decide (x7_1 < (t272.length : Int)) = true := decide_eq_true c19
       clear c19
       by_cases c20 : 0 ≤ x7_1
       ·rw [if_pos c20] at H
        have c20b0 : decide (0 ≤ x7_1) = true := decide_eq_true c20
        clear c20
        obtain ⟨ji21, hji21⟩ : ∃ j_ : Int, (wrap64 (x7_1 + 1)) = j_ := ⟨_, rfl⟩
        replace H : (if 0 ≤ (ji21) then (if (ji21) < (t272.length : Int) then (if x279001_1.length < 8796093022208 then (view_Decode.l0 k1 t272 (wrap64 (x7_1 + 2)) (wrap64 ((rd_T50 t272 0).f1)) (x279001_1 ++ [(⟨wrap64 ((rd_T50 t272 x7_1).f1), wrap64 ((rd_T50 t272 (ji21)).f1)⟩ : S38)])) else (none)) else (none)) else (none)) = some (r1, r2, r3) := by first | (rw [hji21] at H; exact H) | (simp only [hji21] at H ⊢; exact H)
        have hji21w : (IntKind.i64.wrap (x7_1 + 1)) = ji21 := (i64_w _).trans hji21
        by_cases c22 : 0 ≤ (ji21)
        ·rw [if_pos c22] at H
         have c22b0 : decide (0 ≤ (ji21)) = true := decide_eq_true c22
         clear c22
         by_cases c23 : (ji21) < (t272.length : Int)
         ·rw [if_pos c23] at H
          have c23b0 : decide ((ji21) < (t272.length : Int)) = true := decide_eq_true c23
          clear c23
          by_cases c24 : x279001_1.length < 8796093022208
          ·rw [if_pos c24] at H
           have LMc24 := Aside0.mk c24
           clear c24
           obtain ⟨y281, hy281⟩ : ∃ y_ : List (S38), y_ = (x279001_1 ++ [(⟨wrap64 ((rd_T50 t272 x7_1).f1), wrap64 ((rd_T50 t272 (ji21)).f1)⟩ : S38)]) := ⟨_, rfl⟩
           replace H : (view_Decode.l0 k1 t272 (wrap64 (x7_1 + 2)) (wrap64 ((rd_T50 t272 0).f1)) y281) = some (r1, r2, r3) := by first | (rw [hy281]; with_reducible exact H) | (have H2_ := (Option.bind_some _ _).symm.trans H; rw [hy281]; with_reducible exact H2_) | (have H2_ := (Option.bind_some _ _).symm.trans H; with_reducible exact H2_) | with_reducible exact H | (rw [hy281]; exact H) | exact H
           have Ny281 := Aside0.mk hy281
           clear hy281
           have H' := Aside0.mk H
           clear H
           try go_wp2
           have n0_ := Aside0.mk (Kd.R_drew HO_4.out)
           have n1_ := Aside0.mk (Kd.R_drew HO_279001.out)
           have n2_ := Aside0.mk (blk_drew BK271.out)
           have n3_ := Aside0.mk (blk_drew BK278.out)
           have n4_ := Aside0.mk (below_drew1 HB.out)
           clear HO_4
           clear HO_279001
           clear BK271
           clear BK278
           clear HB
           have HO_4 := n0_
           have HO_279001 := n1_
           have BK271 := n2_
           have BK278 := n3_
           have HB := n4_
           clear n0_ n1_ n2_ n3_ n4_
           have p279 : 0 ≤ (x7_1 : Int) := of_decide_eq_true (by first | (with_reducible assumption) | assumption)
           have q279 : x7_1 < (t272.length : Int) := of_decide_eq_true (by first | (with_reducible assumption) | assumption)
           obtain ⟨ad279, e279, hx279_0, hx279_1, hx279_2⟩ := at_T50 (Kd.R_reads' HO_4.out).2.2 x7_1 p279 q279
           obtain rfl : ad277 = ad279 := (by injection e279)
           replace p279 := eq_true p279
           replace q279 := eq_true q279
           have p280 : 0 ≤ ((ji21) : Int) := of_decide_eq_true (by first | (with_reducible assumption) | assumption)
           have q280 : (ji21) < (t272.length : Int) := of_decide_eq_true (by first | (with_reducible assumption) | assumption)
           obtain ⟨ad280, e280, hx280_0, hx280_1, hx280_2⟩ := at_T50 (Kd.R_reads' HO_4.out).2.2 (ji21) p280 q280
           obtain rfl : ad277 = ad280 := (by injection e280)
           replace p280 := eq_true p280
           replace q280 := eq_true q280
           refine start_ (n := 20) (S := fun w' => w'.cell? ⟨gb278, 0, none⟩ = some (.int .i64 (wrap64 ((rd_T50 t272 0).f1))) ∧ w'.cell? ⟨gb278, 1, none⟩ = some (u279001) ∧ w'.cell? (ad277.add ((x7_1).toNat * 3)) = some (.int .i64 ((rd_T50 t272 x7_1).f0)) ∧ w'.cell? ⟨(ad277.add ((x7_1).toNat * 3)).block, (ad277.add ((x7_1).toNat * 3)).off + 1, none⟩ = some (.int .u64 ((rd_T50 t272 x7_1).f1)) ∧ w'.cell? ⟨(ad277.add ((x7_1).toNat * 3)).block, (ad277.add ((x7_1).toNat * 3)).off + 2, none⟩ = some (.string ((rd_T50 t272 x7_1).f2)) ∧ w'.cell? (ad277.add (((ji21)).toNat * 3)) = some (.int .i64 ((rd_T50 t272 (ji21)).f0)) ∧ w'.cell? ⟨(ad277.add (((ji21)).toNat * 3)).block, (ad277.add (((ji21)).toNat * 3)).off + 1, none⟩ = some (.int .u64 ((rd_T50 t272 (ji21)).f1)) ∧ w'.cell? ⟨(ad277.add (((ji21)).toNat * 3)).block, (ad277.add (((ji21)).toNat * 3)).off + 2, none⟩ = some (.string ((rd_T50 t272 (ji21)).f2))) (ds := [17, 19]) #[false, false, false, false, false, false, false, false, false, false, false, false, false, false, false, false, false, false, false, false] (by kernel_rfl) rfl rfl ⟨(blk_cell BK278.out 0).trans rfl, (blk_cell BK278.out 1).trans rfl, hx279_0, hx279_1, hx279_2, hx280_0, hx280_1, hx280_2⟩ (fun hHeld => ?_); refine with_tabW view_Decode.tab10 view_Decode.bits10 (fun HT_ HW_ => ?_)
           generalize wr.drew = w25 at HO_4 HO_279001 BK271 BK278 HB hx279_0 hx279_1 hx279_2 hx280_0 hx280_1 hx280_2 hHeld ⊢
           refine pure_ (i := 0) (N := some 32) (v := ?_) (a' := ?_) #[true, false, false, false, false, false, false, false, false, false, false, false, false, false, false, false, false, false, false, false] rfl rfl (any_of HT_.out (by kernel_rfl)) (fun _ _ _ h => h) (Or.inl ⟨by rfl, ?_⟩) ?_ ?_
           rotate_left
           ·intro w'
            go_simp
            with_reducible rfl
           rotate_left
           ·simp only [Act.put, sl1, sl2, sl3, i64_w, i32_w]
            rfl
           refine pure_ (i := 2) (N := some 34) (v := ?_) (a' := ?_) #[true, false, true, false, false, false, false, false, false, false, false, false, false, false, false, false, false, false, false, false] rfl rfl (any_of HT_.out (by kernel_rfl)) (fun _ _ _ h => h) (Or.inl ⟨by rfl, ?_⟩) ?_ ?_
           rotate_left
           ·intro w'
            go_simp
            with_reducible rfl
           rotate_left
           ·simp only [Act.put, sl1, sl2, sl3, i64_w, i32_w]
            rfl
           refine pure_ (i := 3) (N := some 35) (v := ?_) (a' := ?_) #[true, false, true, true, false, false, false, false, false, false, false, false, false, false, false, false, false, false, false, false] rfl rfl (any_of HT_.out (by kernel_rfl)) (fun _ _ _ h => h) (Or.inl ⟨by rfl, ?_⟩) ?_ ?_
           rotate_left
           ·intro w'
            go_simp
            with_reducible rfl
           rotate_left
           ·simp only [Act.put, sl1, sl2, sl3, i64_w, i32_w]
            rfl
           refine pure_ (i := 4) (N := some 36) (v := ?_) (a' := ?_) #[true, false, true, true, true, false, false, false, false, false, false, false, false, false, false, false, false, false, false, false] rfl rfl (any_of HT_.out (by kernel_rfl)) (fun _ _ _ h => h) (Or.inl ⟨by rfl, ?_⟩) ?_ ?_
           rotate_left
           ·intro w'
            go_simp
            with_reducible rfl
           rotate_left
           ·simp only [Act.put, sl1, sl2, sl3, i64_w, i32_w]
            rfl
           refine pure_ (i := 5) (N := some 37) (v := ?_) (a' := ?_) #[true, false, true, true, true, true, false, false, false, false, false, false, false, false, false, false, false, false, false, false] rfl rfl (any_of HT_.out (by kernel_rfl)) (fun _ _ _ h => h) (Or.inl ⟨by rfl, ?_⟩) ?_ ?_
           rotate_left
           ·intro w'
            go_simp
            with_reducible rfl
           rotate_left
           ·simp only [Act.put, sl1, sl2, sl3, i64_w, i32_w]
            rfl
           refine pure_ (i := 8) (N := some 40) (v := ?_) (a' := ?_) #[true, false, true, true, true, true, false, false, true, false, false, false, false, false, false, false, false, false, false, false] rfl rfl (any_of HT_.out (by kernel_rfl)) (fun _ _ _ h => h) (Or.inl ⟨by rfl, ?_⟩) ?_ ?_
           rotate_left
           ·intro w'
            go_simp
            with_reducible rfl
           rotate_left
           ·simp only [Act.put, sl1, sl2, sl3, i64_w, i32_w]
            rfl
           refine pure_ (i := 9) (N := some 41) (v := ?_) (a' := ?_) #[true, false, true, true, true, true, false, false, true, true, false, false, false, false, false, false, false, false, false, false] rfl rfl (any_of HT_.out (by kernel_rfl)) (fun _ _ _ h => h) (Or.inl ⟨by rfl, ?_⟩) ?_ ?_
           rotate_left
           ·intro w'
            go_simp
            with_reducible rfl
           rotate_left
           ·simp only [Act.put, sl1, sl2, sl3, i64_w, i32_w]
            rfl
           refine pure_ (i := 10) (N := some 42) (v := ?_) (a' := ?_) #[true, false, true, true, true, true, false, false, true, true, true, false, false, false, false, false, false, false, false, false] rfl rfl (any_of HT_.out (by kernel_rfl)) (fun _ _ _ h => h) (Or.inl ⟨by rfl, ?_⟩) ?_ ?_
           rotate_left
           ·intro w'
            go_simp
            with_reducible rfl
           rotate_left
           ·simp only [Act.put, sl1, sl2, sl3, i64_w, i32_w]
            rfl
           refine pure_ (i := 11) (N := some 43) (v := ?_) (a' := ?_) #[true, false, true, true, true, true, false, false, true, true, true, true, false, false, false, false, false, false, false, false] rfl rfl (any_of HT_.out (by kernel_rfl)) (fun _ _ _ h => h) (Or.inl ⟨by rfl, ?_⟩) ?_ ?_
           rotate_left
           ·intro w'
            go_simp
            with_reducible rfl
           rotate_left
           ·simp only [Act.put, sl1, sl2, sl3, i64_w, i32_w]
            rfl
           refine pure_ (i := 12) (N := some 44) (v := ?_) (a' := ?_) #[true, false, true, true, true, true, false, false, true, true, true, true, true, false, false, false, false, false, false, false] rfl rfl (any_of HT_.out (by kernel_rfl)) (fun _ _ _ h => h) (Or.inl ⟨by rfl, ?_⟩) ?_ ?_
           rotate_left
           ·intro w'
            go_simp
            with_reducible rfl
           rotate_left
           ·simp only [Act.put, sl1, sl2, sl3, i64_w, i32_w]
            rfl
           refine take_ (i := 1) (N := some 33) (v := ?_) (a' := ?_) #[true, true, true, true, true, true, false, false, true, true, true, true, true, false, false, false, false, false, false, false] rfl rfl (take_ofW HT_.out HW_.out (by kernel_rfl)) (fun _ _ _ h => h) (Or.inl ⟨by rfl, ?_⟩) hHeld ?_ ?_
           rotate_left
           ·rintro w' ⟨s0, s1, s2, s3, s4, s5, s6, s7⟩
            go_simp
            with_reducible rfl
           rotate_left
           ·simp only [Act.put, sl1, sl2, sl3, i64_w, i32_w]
            rfl
           refine take_ (i := 6) (N := some 38) (v := ?_) (a' := ?_) #[true, true, true, true, true, true, true, false, true, true, true, true, true, false, false, false, false, false, false, false] rfl rfl (take_ofW HT_.out HW_.out (by kernel_rfl)) (fun _ _ _ h => h) (Or.inl ⟨by rfl, ?_⟩) hHeld ?_ ?_
           rotate_left
           ·rintro w' ⟨s0, s1, s2, s3, s4, s5, s6, s7⟩
            go_simp
            with_reducible rfl
           rotate_left
           ·simp only [Act.put, sl1, sl2, sl3, i64_w, i32_w]
            rfl
           refine pure_ (i := 7) (N := some 39) (v := ?_) (a' := ?_) #[true, true, true, true, true, true, true, true, true, true, true, true, true, false, false, false, false, false, false, false] rfl rfl (any_of HT_.out (by kernel_rfl)) (fun _ _ _ h => h) (Or.inl ⟨by rfl, ?_⟩) ?_ ?_
           rotate_left
           ·intro w'
            go_simp
            with_reducible rfl
           rotate_left
           ·simp only [Act.put, sl1, sl2, sl3, i64_w, i32_w]
            rfl
           refine take_ (i := 13) (N := some 45) (v := ?_) (a' := ?_) #[true, true, true, true, true, true, true, true, true, true, true, true, true, true, false, false, false, false, false, false] rfl rfl (take_ofW HT_.out HW_.out (by kernel_rfl)) (fun _ _ _ h => h) (Or.inl ⟨by rfl, ?_⟩) hHeld ?_ ?_
           rotate_left
           ·rintro w' ⟨s0, s1, s2, s3, s4, s5, s6, s7⟩
            go_simp
            with_reducible rfl
           rotate_left
           ·simp only [Act.put, sl1, sl2, sl3, i64_w, i32_w]
            rfl
           refine pure_ (i := 14) (N := some 46) (v := ?_) (a' := ?_) #[true, true, true, true, true, true, true, true, true, true, true, true, true, true, true, false, false, false, false, false] rfl rfl (any_of HT_.out (by kernel_rfl)) (fun _ _ _ h => h) (Or.inl ⟨by rfl, ?_⟩) ?_ ?_
           rotate_left
           ·intro w'
            go_simp
            with_reducible rfl
           rotate_left
           ·simp only [Act.put, sl1, sl2, sl3, i64_w, i32_w]
            rfl
           refine pure_ (i := 15) (N := some 47) (v := ?_) (a' := ?_) #[true, true, true, true, true, true, true, true, true, true, true, true, true, true, true, true, false, false, false, false] rfl rfl (any_of HT_.out (by kernel_rfl)) (fun _ _ _ h => h) (Or.inl ⟨by rfl, ?_⟩) ?_ ?_
           rotate_left
           ·intro w'
            go_simp
            with_reducible rfl
           rotate_left
           ·simp only [Act.put, sl1, sl2, sl3, i64_w, i32_w]
            rfl
           refine one_ (i := 16) (N := some 48) #[true, true, true, true, true, true, true, true, true, true, true, true, true, true, true, true, true, false, false, false] rfl rfl (one_of HT_.out (by kernel_rfl)) (by decide) (fun K hK => ?_)
           refine value_ (w1 := ?_) (v := ?_) (by rfl) rfl ?_ ?_
           rotate_left 2
           ·go_simp
            constructor
            ·rfl
            ·rfl
           refine hK.out _ _ ⟨(blk_cell (blk_alloc BK278.out _) 0).trans rfl, (blk_cell (blk_alloc BK278.out _) 1).trans rfl, (World.cell?_alloc_lt _ _ _ (World.block_lt_of_cell? _ _ (hHeld.2.2.1))).trans (hHeld.2.2.1), (World.cell?_alloc_lt _ _ _ (World.block_lt_of_cell? _ _ (hHeld.2.2.2.1))).trans (hHeld.2.2.2.1), (World.cell?_alloc_lt _ _ _ (World.block_lt_of_cell? _ _ (hHeld.2.2.2.2.1))).trans (hHeld.2.2.2.2.1), (World.cell?_alloc_lt _ _ _ (World.block_lt_of_cell? _ _ (hHeld.2.2.2.2.2.1))).trans (hHeld.2.2.2.2.2.1), (World.cell?_alloc_lt _ _ _ (World.block_lt_of_cell? _ _ (hHeld.2.2.2.2.2.2.1))).trans (hHeld.2.2.2.2.2.2.1), (World.cell?_alloc_lt _ _ _ (World.block_lt_of_cell? _ _ (hHeld.2.2.2.2.2.2.2))).trans (hHeld.2.2.2.2.2.2.2)⟩ (fun hHeld => ?_)
           clear hK K
           refine norm_ (a' := ?_) ?_ ?_
           rotate_left
           ·show Act.put _ (some 48) _ = _
            simp only [Act.put, sl1, sl2, sl3, i64_w, i32_w]
            rfl
           refine last_ (i := 17) (N := some 49) #[true, true, true, true, true, true, true, true, true, true, true, true, true, true, true, true, true, true, false, false] rfl rfl (one_of HT_.out (by kernel_rfl)) (by decide) (fun K hK => ?_)
           refine Kd.R_append_step k38 (w0 := w) w.heap.size (by rfl) (.tmp 33) (.tmp 48) 22 38 (.agg #[(.int .i64 0), (.int .i64 0)]) 16 rfl Tryd.underlying22 info38 rfl (by decide) (by omega) u279001 x279001_1 (⟨wrap64 ((rd_T50 t272 x7_1).f1), wrap64 ((rd_T50 t272 (ji21)).f1)⟩ : S38) [.int .i64 (wrap64 ((rd_T50 t272 x7_1).f1)), .int .i64 (wrap64 ((rd_T50 t272 (ji21)).f1))] (fun _ => True) (fun _ => False) rfl rfl ?aP (fun _ hk => hk.elim) ?aF ?aO ?aB ?aS ?aL ?_
           (case aP => exact k38_mkM _ _ _ (⟨wrap64 ((rd_T50 t272 x7_1).f1), wrap64 ((rd_T50 t272 (ji21)).f1)⟩ : S38))
           (case aB => exact bw)
           (case aF => exact (fun _ _ => trivial))
           (case aO => exact (by (with_reducible repeat (first | apply Kd.R_alloc | apply Kd.R_drewN | apply Kd.R_drew)); exact HO_279001.out))
           (case aS => exact (below_size bw))
           (case aL => have := LMc24.out; omega)
           intro v282 w26 ho hb hg hat
           rw [← Ny281.out] at ho
           have n0_ := Aside0.mk (Kd.R_over' (by (with_reducible repeat (first | apply Kd.R_alloc | apply Kd.R_drewN | apply Kd.R_drew)); exact HO_4.out) (Kd.R_typed (by (with_reducible repeat (first | apply Kd.R_alloc | apply Kd.R_drewN | apply Kd.R_drew)); exact HO_279001.out)) (by decide) hg)
           have n1_ := Aside0.mk (blk_grown (g := gb271) (o := .cells #[.int .i64 0, .slice none 0 0] 24 (0, 0)) (bk BK271.out) hg (Kd.R_ne HO_279001.out BK271.out (by decide)))
           have n2_ := Aside0.mk (blk_grown (g := gb278) (o := .cells #[.int .i64 (wrap64 ((rd_T50 t272 0).f1)), u279001] 24 (0, 0)) (bk BK278.out) hg (Kd.R_ne HO_279001.out BK278.out (by decide)))
           have n3_ := Aside0.mk (hb)
           have n4_ := Aside0.mk (ho)
           clear HO_4
           clear BK271
           clear BK278
           clear HB
           clear HO_279001
           have HO_4 := n0_
           have BK271 := n1_
           have BK278 := n2_
           have HB := n3_
           have HO283 := n4_
           clear n0_ n1_ n2_ n3_ n4_
           clear ho hb hg hat
           obtain ⟨Ao27, co27, eo27⟩ := Kd.R_slice HO283.out
           (first | subst eo27 | (injection eo27 with f1_ f2_ f3_; have f4_ := f1_.symm; have f5_ := f3_.symm; clear f1_ f2_ f3_; subst f4_; subst f5_))
           refine hK.out _ _ ?_
           clear hK K
           refine norm_ (a' := ?_) ?_ ?_
           rotate_left
           ·show Act.put _ (some 49) _ = _
            simp only [Act.put, sl1, sl2, sl3, i64_w, i32_w]
            rfl
           refine pure_ (i := 18) (N := some 50) (v := ?_) (a' := ?_) #[true, true, true, true, true, true, true, true, true, true, true, true, true, true, true, true, true, true, true, false] rfl rfl (any_of HT_.out (by kernel_rfl)) (fun _ _ _ h => h) (Or.inl ⟨by rfl, ?_⟩) ?_ ?_
           rotate_left
           ·intro w'
            go_simp
            with_reducible rfl
           rotate_left
           ·simp only [Act.put, sl1, sl2, sl3, i64_w, i32_w]
            rfl
           refine last_ (i := 19) (N := none) #[true, true, true, true, true, true, true, true, true, true, true, true, true, true, true, true, true, true, true, true] rfl rfl (one_of HT_.out (by kernel_rfl)) (by decide) (fun K hK => ?_)
           have hs28 : w26.cell? ⟨gb278, 1, none⟩ = some (u279001) := (blk_cell BK278.out 1).trans rfl
           have hfs28 := blk_frozen BK278.out 1
           have hns28_0 := NB271_278.out
           have hms28_0 := NB278_271.out
           refine skip_ (w1 := ?_) (by rfl) rfl ?_ ?_
           rotate_left
           ·go_simp
            rfl
           refine hK.out _ _ ?_
           clear hK K
           refine done_ (done_of HT_.out (by kernel_rfl)) ?_
           try go_wp2
           go_roundg k1
           case measure => have := HK1.out; omega
           case rel => (try rw [hji21]); exact ⟨(wrap64 (x7_1 + 2)), (y281), (.slice Ao27 y281.length co27), (by first | rfl | (simp; done) | (simp [*]; done)), H', ⟨by have := HK1.out; omega⟩, ⟨by (with_reducible repeat (first | apply Kd.R_alloc | apply Kd.R_drewN | apply Kd.R_drew)); exact Kd.R_mono (Kd.R_far (p := ⟨gb278, 1, none⟩) (Kd.R_types HO_4.out BK278.out (by decide)) (fun _ hk => hk.2) (.slice Ao27 y281.length co27)) (fun _ hk => trivial)⟩, ⟨by (with_reducible repeat (first | apply Kd.R_alloc | apply Kd.R_drewN | apply Kd.R_drew)); exact Kd.R_mono (Kd.R_far (p := ⟨gb278, 1, none⟩) (Kd.R_types HO283.out BK278.out (by decide)) (fun _ hk => hk.2) (.slice Ao27 y281.length co27)) (fun _ hk => trivial)⟩, ⟨by (with_reducible repeat (first | refine blk_drewN ?_ _ | refine blk_drew ?_ | refine blk_alloc ?_ _)); refine blk_far ?_ NB271_278.out _; (with_reducible repeat (first | refine blk_drewN ?_ _ | refine blk_drew ?_ | refine blk_alloc ?_ _)); exact BK271.out⟩, ⟨by (with_reducible repeat (first | refine blk_drewN ?_ _ | refine blk_drew ?_ | refine blk_alloc ?_ _)); refine blk_put (cs := #[.int .i64 (wrap64 ((rd_T50 t272 0).f1)), u279001]) ?_ 1 _ rfl; (with_reducible repeat (first | refine blk_drewN ?_ _ | refine blk_drew ?_ | refine blk_alloc ?_ _)); exact BK278.out⟩, ⟨bw⟩⟩
          ·rw [if_neg c24] at H
           exact absurd H (by simp)
         ·rw [if_neg c23] at H
          exact absurd H (by simp)
        ·rw [if_neg c22] at H
         exact absurd H (by simp)
       ·rw [if_neg c20] at H
        exact absurd H (by simp)
      ·rw [if_neg c19] at H
       have c19b0 : decide (x7_1 < (t272.length : Int)) = false := decide_eq_false c19
       clear c19
       replace H := Option.bind_eq_some_iff.mp H
       obtain ⟨t284, A290, H⟩ := H
       replace H : (if t284 = true then (some ((wrap64 ((rd_T50 t272 0).f1)), x279001_1, 0)) else (some (0, ([] : List (S38)), 10))) = some (r1, r2, r3) := H
       have A29 := Aside0.mk A290
       clear A290
       by_cases c30 : t284 = true
       ·subst c30
        have H1 : (some ((wrap64 ((rd_T50 t272 0).f1)), x279001_1, 0)) = some (r1, r2, r3) := by rw [if_pos rfl] at H; exact H
        clear H
        have H := H1
        clear H1
        simp only [Option.some.injEq, Prod.mk.injEq] at H
        obtain ⟨rfl, rfl, rfl⟩ := H
        have hnb31 := NB278_271.out
        have hnc31 := NB271_278.out
        have hcz32_0 := bc2_0 BK278.out
        have hcz32_1 := bc2_1 BK278.out
        have hfz32_0 := blk_frozen BK278.out 0
        have hfz32_1 := blk_frozen BK278.out 1
        obtain ⟨Ao33, co33, eo33⟩ := Kd.R_slice HO_279001.out
        subst eo33
        go_wp2_with (first | ((with_reducible refine gate_callee (f := 17) rfl ?_); refine goesL_ (some 52) rfl rfl Tryd.func17 (by kernel_rfl) rfl #[.agg #[.int .i64 (wrap64 ((rd_T50 t272 0).f1)), .slice Ao33 x279001_1.length co33]] rfl am ?_; (with_reducible refine (view_Right.calls k1 (wrap64 ((rd_T50 t272 0).f1)) _ _ x279001_1 true _ ?side1 ?side2 A29.out).mono ?_); (case side1 => repeat (first | exact (Kd.R_reads' HO_279001.out).2.2 | (with_reducible refine Kd.C_alloc ?_ _) | (with_reducible refine Kd.C_drewN ?_ _) | (with_reducible refine Kd.C_drew ?_))); (case side2 => exact (Kd.R_reads' HO_279001.out).2.1); rintro e w34 ⟨rfl, hb⟩; refine ⟨_, rfl, ?_⟩; have n0_ := Aside0.mk (Kd.R_below (by (with_reducible repeat (first | apply Kd.R_alloc | apply Kd.R_drewN | apply Kd.R_drew)); exact HO_4.out) hb); have n1_ := Aside0.mk (Kd.R_below (by (with_reducible repeat (first | apply Kd.R_alloc | apply Kd.R_drewN | apply Kd.R_drew)); exact HO_279001.out) hb); have n2_ := Aside0.mk (nb BK271.out hb); have n3_ := Aside0.mk (nb BK278.out hb); have n4_ := Aside0.mk (below_step bw hb); clear HO_4; clear HO_279001; clear BK271; clear BK278; clear HB; have HO_4 := n0_; have HO_279001 := n1_; have BK271 := n2_; have BK278 := n3_; have HB := n4_; clear n0_ n1_ n2_ n3_ n4_; (try clear hb); (try clear hb2); (try clear hk); (try clear hi); have hcz35_0 := bc2_0 BK278.out; have hcz35_1 := bc2_1 BK278.out; have hfz35_0 := blk_frozen BK278.out 0; have hfz35_1 := blk_frozen BK278.out 1; have hcz36_0 := bc2_0 BK271.out; have hcz36_1 := bc2_1 BK271.out; have hfz36_0 := blk_frozen BK271.out 0; have hfz36_1 := blk_frozen BK271.out 1))
        refine bodyPost_ret (results_ct rfl _ _ gb271 24 #[.int .i64 (wrap64 ((rd_T50 t272 0).f1)), .slice Ao33 x279001_1.length co33] (0, 0) _ rfl (by (with_reducible repeat (first | refine blk_drewN ?_ _ | refine blk_drew ?_ | refine blk_alloc ?_ _)); refine blk_put (cs := #[.int .i64 (wrap64 ((rd_T50 t272 0).f1)), .slice none 0 0]) ?_ 1 _ rfl; (with_reducible repeat (first | refine blk_drewN ?_ _ | refine blk_drew ?_ | refine blk_alloc ?_ _)); refine blk_put (cs := #[.int .i64 0, .slice none 0 0]) ?_ 0 _ rfl; (with_reducible repeat (first | refine blk_drewN ?_ _ | refine blk_drew ?_ | refine blk_alloc ?_ _)); exact BK271.out) Tryd.underlying24 rfl (by kernel_rfl)) rfl ?_
        exact ⟨_, er, by (with_reducible repeat (first | apply Kd.R_alloc | apply Kd.R_drewN | apply Kd.R_drew)); exact Kd.R_mono (Kd.R_far (p := ⟨gb271, 1, none⟩) (Kd.R_far (p := ⟨gb271, 0, none⟩) (Kd.R_types HO_279001.out BK271.out (by decide)) (fun _ hk => hk.2) (.int .i64 (wrap64 ((rd_T50 t272 0).f1)))) (fun _ hk => hk.2) (.slice Ao33 x279001_1.length co33)) (fun _ hk => trivial), bw⟩
       ·replace c30 := Bool.eq_false_iff.mpr c30
        subst c30
        have H1 : (some (0, ([] : List (S38)), 10)) = some (r1, r2, r3) := by rw [if_neg (show ¬ (false = true) by decide)] at H; exact H
        clear H
        have H := H1
        clear H1
        simp only [Option.some.injEq, Prod.mk.injEq] at H
        obtain ⟨rfl, rfl, rfl⟩ := H
        have hnb37 := NB278_271.out
        have hnc37 := NB271_278.out
        have hcz38_0 := bc2_0 BK278.out
        have hcz38_1 := bc2_1 BK278.out
        have hfz38_0 := blk_frozen BK278.out 0
        have hfz38_1 := blk_frozen BK278.out 1
        obtain ⟨Ao39, co39, eo39⟩ := Kd.R_slice HO_279001.out
        subst eo39
        go_wp2_with (first | ((with_reducible refine gate_callee (f := 17) rfl ?_); refine goesL_ (some 52) rfl rfl Tryd.func17 (by kernel_rfl) rfl #[.agg #[.int .i64 (wrap64 ((rd_T50 t272 0).f1)), .slice Ao39 x279001_1.length co39]] rfl am ?_; (with_reducible refine (view_Right.calls k1 (wrap64 ((rd_T50 t272 0).f1)) _ _ x279001_1 false _ ?side1 ?side2 A29.out).mono ?_); (case side1 => repeat (first | exact (Kd.R_reads' HO_279001.out).2.2 | (with_reducible refine Kd.C_alloc ?_ _) | (with_reducible refine Kd.C_drewN ?_ _) | (with_reducible refine Kd.C_drew ?_))); (case side2 => exact (Kd.R_reads' HO_279001.out).2.1); rintro e w40 ⟨rfl, hb⟩; refine ⟨_, rfl, ?_⟩; have n0_ := Aside0.mk (Kd.R_below (by (with_reducible repeat (first | apply Kd.R_alloc | apply Kd.R_drewN | apply Kd.R_drew)); exact HO_4.out) hb); have n1_ := Aside0.mk (Kd.R_below (by (with_reducible repeat (first | apply Kd.R_alloc | apply Kd.R_drewN | apply Kd.R_drew)); exact HO_279001.out) hb); have n2_ := Aside0.mk (nb BK271.out hb); have n3_ := Aside0.mk (nb BK278.out hb); have n4_ := Aside0.mk (below_step bw hb); clear HO_4; clear HO_279001; clear BK271; clear BK278; clear HB; have HO_4 := n0_; have HO_279001 := n1_; have BK271 := n2_; have BK278 := n3_; have HB := n4_; clear n0_ n1_ n2_ n3_ n4_; (try clear hb); (try clear hb2); (try clear hk); (try clear hi); have hcz41_0 := bc2_0 BK271.out; have hcz41_1 := bc2_1 BK271.out; have hfz41_0 := blk_frozen BK271.out 0; have hfz41_1 := blk_frozen BK271.out 1))
        refine bodyPost_ret (results_ct rfl _ _ gb271 24 #[.int .i64 0, .slice none 0 0] (0, 0) _ rfl (by (with_reducible repeat (first | refine blk_drewN ?_ _ | refine blk_drew ?_ | refine blk_alloc ?_ _)); refine blk_put (cs := #[.int .i64 0, .slice none 0 0]) ?_ 1 _ rfl; (with_reducible repeat (first | refine blk_drewN ?_ _ | refine blk_drew ?_ | refine blk_alloc ?_ _)); refine blk_put (cs := #[.int .i64 0, .slice none 0 0]) ?_ 0 _ rfl; (with_reducible repeat (first | refine blk_drewN ?_ _ | refine blk_drew ?_ | refine blk_alloc ?_ _)); exact BK271.out) Tryd.underlying24 rfl (by kernel_rfl)) rfl ?_
        exact ⟨_, er, by first | exact Kd.R_nil _ _ _ _ _ | exact Kd.N_nil _ _ _ _ _ | exact Kd.V_nil _ _ _ _ _ | exact Kd.Q_nil _ _ _ _ _ | exact Kd.S_nil _ _ _ _ _, bw⟩
   ·rw [if_neg c11] at H
    exact absurd H (by simp)
 ·rw [if_neg c3] at H
  have c3b0 : (t273 == 0) = false := beq_eq_false_iff_ne.mpr c3
  have c3b1 : (t273 != 0) = true := bne_iff_ne.mpr c3
  simp only [Option.some.injEq, Prod.mk.injEq] at H
  obtain ⟨rfl, rfl, rfl⟩ := H
  go_enter Tryd.func8, Tryd.ntmps8
  go_wp2_with (first | ((with_reducible refine gate_dst (N := 2) rfl ?_); refine box_event ?hg (N := 2) ?hd (cs := #[.int .i64 0, .slice none 0 0]) (t := 24) ?hr ?_; (case hd => rfl); (case hg => rfl); (case hr => first | (go_simp; done) | (go_simp; rfl)); intro gb271 hg w42 hbox hb; have n0_ := Aside0.mk (below_step bw hb); have n1_ := Aside0.mk (hbox); have n2_ := Aside0.mk ((g1 hg bw : w.heap.size ≤ gb271)); have n3_ := Aside0.mk ((g1 hg bw : w.heap.size ≤ gb271)); clear HB; have HB := n0_; have BK271 := n1_; have GW271 := n2_; have GE271 := n3_; clear n0_ n1_ n2_ n3_; clear hb hbox hg) | ((with_reducible refine gate_callee (f := 21) rfl ?_); refine goesL_ (some 10) rfl rfl Tryd.func21 (by kernel_rfl) rfl #[.string (⟨#[108, 42, 98, 108]⟩ : ByteArray), .string a0] rfl am ?_; (with_reducible refine (codec_Decode.calls k (⟨#[108, 42, 98, 108]⟩ : ByteArray) a0 t272 t273 _ tbk A2.out).mono ?_); rintro e w43 ⟨v274, rfl, ho0, hb⟩; refine ⟨_, rfl, ?_⟩; have n0_ := Aside0.mk (Kd.R_lower ho0 (below_size bw)); have n1_ := Aside0.mk (nb BK271.out hb); have n2_ := Aside0.mk (below_step bw hb); clear BK271; clear HB; have HO275 := n0_; have BK271 := n1_; have HB := n2_; clear n0_ n1_ n2_; (try clear hb); (try clear hb2); (try clear hk); (try clear hi); (try clear ho0); have hcz44_0 := bc2_0 BK271.out; have hcz44_1 := bc2_1 BK271.out; have hfz44_0 := blk_frozen BK271.out 0; have hfz44_1 := blk_frozen BK271.out 1))
  refine bodyPost_ret (results_ct rfl _ _ gb271 24 #[.int .i64 0, .slice none 0 0] (0, 0) _ rfl (by (with_reducible repeat (first | refine blk_drewN ?_ _ | refine blk_drew ?_ | refine blk_alloc ?_ _)); refine blk_put (cs := #[.int .i64 0, .slice none 0 0]) ?_ 1 _ rfl; (with_reducible repeat (first | refine blk_drewN ?_ _ | refine blk_drew ?_ | refine blk_alloc ?_ _)); refine blk_put (cs := #[.int .i64 0, .slice none 0 0]) ?_ 0 _ rfl; (with_reducible repeat (first | refine blk_drewN ?_ _ | refine blk_drew ?_ | refine blk_alloc ?_ _)); exact BK271.out) Tryd.underlying24 rfl (by kernel_rfl)) rfl ?_
  exact ⟨_, er, by first | exact Kd.R_nil _ _ _ _ _ | exact Kd.N_nil _ _ _ _ _ | exact Kd.V_nil _ _ _ _ _ | exact Kd.Q_nil _ _ _ _ _ | exact Kd.S_nil _ _ _ _ _, bw⟩

/-! ### carillonref01_kindOf: function 44 -/
def carillonref01_kindOf.f (a0 : Int) : Option (Int) := if a0 = 98 then (some 1) else (if a0 = 119 then (some 2) else (if a0 = 108 then (some 3) else (if a0 = 116 then (some 4) else (some 0))))
set_option maxHeartbeats 8000000 in
set_option maxRecDepth 100000 in
theorem carillonref01_kindOf.calls (a0 : Int) (r : Int) (w : World) (h : carillonref01_kindOf.f a0 = some r) :
  Calls Tryd.prog 44 #[.int .u8 a0] w fun e w' => e = .returned (.int .i64 r) ∧ Drawn0 w w' := by
 have H : (if a0 = 98 then (some 1) else (if a0 = 119 then (some 2) else (if a0 = 108 then (some 3) else (if a0 = 116 then (some 4) else (some 0))))) = some r := h
 clear h
 by_cases c2 : a0 = 98
 ·rw [if_pos c2] at H
  have c2b0 : (a0 == 98) = true := beq_iff_eq.mpr c2
  have c2b1 : (a0 != 98) = false := bne_eq_false_iff_eq.mpr c2
  clear c2
  obtain rfl := Option.some.inj H
  go_enter Tryd.func44, Tryd.ntmps44
  go_wp2
  go_ret
  exact ⟨by first | rfl | (simp; done) | (simp [*]; done), by repeat (first | exact Drawn0.refl _ | apply Drawn0.step)⟩
 ·rw [if_neg c2] at H
  have c2b0 : (a0 == 98) = false := beq_eq_false_iff_ne.mpr c2
  have c2b1 : (a0 != 98) = true := bne_iff_ne.mpr c2
  by_cases c3 : a0 = 119
  ·rw [if_pos c3] at H
   have c3b0 : (a0 == 119) = true := beq_iff_eq.mpr c3
   have c3b1 : (a0 != 119) = false := bne_eq_false_iff_eq.mpr c3
   clear c3
   obtain rfl := Option.some.inj H
   go_enter Tryd.func44, Tryd.ntmps44
   go_wp2
   go_ret
   exact ⟨by first | rfl | (simp; done) | (simp [*]; done), by repeat (first | exact Drawn0.refl _ | apply Drawn0.step)⟩
  ·rw [if_neg c3] at H
   have c3b0 : (a0 == 119) = false := beq_eq_false_iff_ne.mpr c3
   have c3b1 : (a0 != 119) = true := bne_iff_ne.mpr c3
   by_cases c4 : a0 = 108
   ·rw [if_pos c4] at H
    have c4b0 : (a0 == 108) = true := beq_iff_eq.mpr c4
    have c4b1 : (a0 != 108) = false := bne_eq_false_iff_eq.mpr c4
    clear c4
    obtain rfl := Option.some.inj H
    go_enter Tryd.func44, Tryd.ntmps44
    go_wp2
    go_ret
    exact ⟨by first | rfl | (simp; done) | (simp [*]; done), by repeat (first | exact Drawn0.refl _ | apply Drawn0.step)⟩
   ·rw [if_neg c4] at H
    have c4b0 : (a0 == 108) = false := beq_eq_false_iff_ne.mpr c4
    have c4b1 : (a0 != 108) = true := bne_iff_ne.mpr c4
    by_cases c5 : a0 = 116
    ·rw [if_pos c5] at H
     have c5b0 : (a0 == 116) = true := beq_iff_eq.mpr c5
     have c5b1 : (a0 != 116) = false := bne_eq_false_iff_eq.mpr c5
     clear c5
     obtain rfl := Option.some.inj H
     go_enter Tryd.func44, Tryd.ntmps44
     go_wp2
     go_ret
     exact ⟨by first | rfl | (simp; done) | (simp [*]; done), by repeat (first | exact Drawn0.refl _ | apply Drawn0.step)⟩
    ·rw [if_neg c5] at H
     have c5b0 : (a0 == 116) = false := beq_eq_false_iff_ne.mpr c5
     have c5b1 : (a0 != 116) = true := bne_iff_ne.mpr c5
     obtain rfl := Option.some.inj H
     go_enter Tryd.func44, Tryd.ntmps44
     go_wp2
     go_ret
     exact ⟨by first | rfl | (simp; done) | (simp [*]; done), by repeat (first | exact Drawn0.refl _ | apply Drawn0.step)⟩

/-! ### carillonref01_kinds: function 36 -/
def carillonref01_kinds.l0 : Nat → ByteArray → List Int → List Int → Bool → Int → Option (List Int × List Int × Bool)
 | 0, _, _, _, _, _ => none
 | k + 1, x0, x5, x6, x7, x8 => if x8 < (x0.size : Int) then (if 0 ≤ x8 then ((carillonref01_kindOf.f (bt x0 x8)).bind fun t285 => (if (bt x0 x8) = 42 then (if x7 = true then (if t285 = 0 then (some (([] : List Int), ([] : List Int), false)) else (if x6.length < 17592186044416 then (carillonref01_kinds.l0 k x0 x5 (x6 ++ [t285]) x7 (wrap64 (x8 + 1))) else (none))) else (carillonref01_kinds.l0 k x0 x5 x6 true (wrap64 (x8 + 1)))) else (if t285 = 0 then (some (([] : List Int), ([] : List Int), false)) else (if x7 = true then (if x6.length < 17592186044416 then (carillonref01_kinds.l0 k x0 x5 (x6 ++ [t285]) x7 (wrap64 (x8 + 1))) else (none)) else (if x5.length < 17592186044416 then (carillonref01_kinds.l0 k x0 (x5 ++ [t285]) x6 x7 (wrap64 (x8 + 1))) else (none)))))) else (none)) else (if x7 = true then (some (x5, x6, decide ((x6.length : Int) > 0))) else (some (x5, x6, true)))
def carillonref01_kinds.f (k : Nat) (a0 : ByteArray) : Option (List Int × List Int × Bool) := carillonref01_kinds.l0 k a0 ([] : List Int) ([] : List Int) false 0
theorem carillonref01_kinds.mono_l : ∀ k, (∀ y0 y1 y2 y3 y4, LeO (carillonref01_kinds.l0 k y0 y1 y2 y3 y4) (carillonref01_kinds.l0 (k + 1) y0 y1 y2 y3 y4))
 | 0 => fun _ _ _ _ _ r h => by simp [carillonref01_kinds.l0] at h
 | k + 1 => by
  have ih0 := carillonref01_kinds.mono_l k
  ·intro y0 y1 y2 y3 y4
   unfold carillonref01_kinds.l0
   repeat' first
   | (with_reducible exact ih0 _ _ _ _ _)
   | (with_reducible exact LeO.refl _)
   | (with_reducible exact LeO.none _)
   | (with_reducible refine LeO.ite ?_ ?_)
   | (with_reducible refine LeO.bind ?_ (fun _ => ?_))
   | exact ih0 _ _ _ _ _
   | exact LeO.none _
   | refine LeO.ite ?_ ?_
   | refine LeO.bind ?_ (fun _ => ?_)
theorem carillonref01_kinds.mono : ∀ a0 k, LeO (carillonref01_kinds.f k a0) (carillonref01_kinds.f (k + 1) a0) := by
 intro a0 k
 have ih0 := carillonref01_kinds.mono_l k
 unfold carillonref01_kinds.f
 repeat' first
   | (with_reducible exact ih0 _ _ _ _ _)
   | (with_reducible exact LeO.refl _)
   | (with_reducible exact LeO.none _)
   | (with_reducible refine LeO.ite ?_ ?_)
   | (with_reducible refine LeO.bind ?_ (fun _ => ?_))
   | exact ih0 _ _ _ _ _
   | exact LeO.none _
   | refine LeO.ite ?_ ?_
   | refine LeO.bind ?_ (fun _ => ?_)
set_option maxHeartbeats 8000000 in
set_option maxRecDepth 100000 in
theorem carillonref01_kinds.calls (k : Nat) (a0 : ByteArray) (r1 : List Int) (r2 : List Int) (r3 : Bool) (w : World) (h : carillonref01_kinds.f k a0 = some (r1, r2, r3)) :
  Calls Tryd.prog 36 #[.string a0] w fun e w' => ∃ v0_ v1_ : Value, e = .returned (.tuple #[v0_, v1_, .bool r3]) ∧ Kd.R (Kd.int .i64) 3 w' w.heap.size (fun k_ => some k_ ≠ (v1_ : Value).ownBlock) v0_ r1 ∧ Kd.R (Kd.int .i64) 3 w' w.heap.size (fun k_ => some k_ ≠ (v0_ : Value).ownBlock) v1_ r2 ∧ Below w.heap.size w w' := by
 have HB := Aside0.mk (Below.refl w.heap.size w)
 have H : (carillonref01_kinds.l0 k a0 ([] : List Int) ([] : List Int) false 0) = some (r1, r2, r3) := h
 clear h
 have H' := Aside0.mk H
 clear H
 go_enter Tryd.func36, Tryd.ntmps36
 go_wp2
 go_loopg [5, 6, 7, 8] k (fun kq v5 v6 v7 v8 w' => ∃ (x5_1 : List Int) (x6_1 : List Int) (x7_1 : Bool) (x8_1 : Int), v7 = .bool x7_1 ∧ v8 = .int .i64 x8_1 ∧ Aside0 (carillonref01_kinds.l0 kq a0 x5_1 x6_1 x7_1 x8_1 = some (r1, r2, r3)) ∧ Aside0 (kq ≤ k) ∧ Aside0 (Kd.R (Kd.int .i64) 3 w' w.heap.size (fun k_ => some k_ ≠ (v6 : Value).ownBlock) v5 x5_1) ∧ Aside0 (Kd.R (Kd.int .i64) 3 w' w.heap.size (fun k_ => some k_ ≠ (v5 : Value).ownBlock) v6 x6_1) ∧ Aside0 (Below w.heap.size w w'))
 case atStart => exact ⟨(([] : List Int)), (([] : List Int)), (false), (0), (by first | rfl | (simp; done) | (simp [*]; done)), (by first | rfl | (simp; done) | (simp [*]; done)), H', ⟨Nat.le_refl _⟩, ⟨by first | exact Kd.R_nil _ _ _ _ _ | exact Kd.N_nil _ _ _ _ _ | exact Kd.V_nil _ _ _ _ _ | exact Kd.Q_nil _ _ _ _ _ | exact Kd.S_nil _ _ _ _ _⟩, ⟨by first | exact Kd.R_nil _ _ _ _ _ | exact Kd.N_nil _ _ _ _ _ | exact Kd.V_nil _ _ _ _ _ | exact Kd.Q_nil _ _ _ _ _ | exact Kd.S_nil _ _ _ _ _⟩, ⟨bw⟩⟩
 case round =>
  clear H'
  obtain ⟨x5_1, x6_1, x7_1, x8_1, rfl, rfl, HA, HK1, HO_5, HO_6, HB⟩ := hrel
  cases gk with
  | zero => exact absurd HA.out (by simp [carillonref01_kinds.l0])
  | succ k1 =>
   have H := HA.out
   clear HA
   simp only [carillonref01_kinds.l0] at H
   by_cases c2 : x8_1 < (a0.size : Int)
   ·rw [if_pos c2] at H
    have c2b0 : decide (x8_1 < (a0.size : Int)) = true := decide_eq_true c2
    clear c2
    by_cases c3 : 0 ≤ x8_1
    ·rw [if_pos c3] at H
     have c3b0 : decide (0 ≤ x8_1) = true := decide_eq_true c3
     clear c3
     replace H := Option.bind_eq_some_iff.mp H
     obtain ⟨t285, A50, H⟩ := H
     replace H : (if (bt a0 x8_1) = 42 then (if x7_1 = true then (if t285 = 0 then (some (([] : List Int), ([] : List Int), false)) else (if x6_1.length < 17592186044416 then (carillonref01_kinds.l0 k1 a0 x5_1 (x6_1 ++ [t285]) x7_1 (wrap64 (x8_1 + 1))) else (none))) else (carillonref01_kinds.l0 k1 a0 x5_1 x6_1 true (wrap64 (x8_1 + 1)))) else (if t285 = 0 then (some (([] : List Int), ([] : List Int), false)) else (if x7_1 = true then (if x6_1.length < 17592186044416 then (carillonref01_kinds.l0 k1 a0 x5_1 (x6_1 ++ [t285]) x7_1 (wrap64 (x8_1 + 1))) else (none)) else (if x5_1.length < 17592186044416 then (carillonref01_kinds.l0 k1 a0 (x5_1 ++ [t285]) x6_1 x7_1 (wrap64 (x8_1 + 1))) else (none))))) = some (r1, r2, r3) := H
     have A5 := Aside0.mk A50
     clear A50
     by_cases c7 : (bt a0 x8_1) = 42
     ·rw [if_pos c7] at H
      have c7b0 : ((bt a0 x8_1) == 42) = true := beq_iff_eq.mpr c7
      have c7b1 : ((bt a0 x8_1) != 42) = false := bne_eq_false_iff_eq.mpr c7
      clear c7
      by_cases c8 : x7_1 = true
      ·subst c8
       have H1 : (if t285 = 0 then (some (([] : List Int), ([] : List Int), false)) else (if x6_1.length < 17592186044416 then (carillonref01_kinds.l0 k1 a0 x5_1 (x6_1 ++ [t285]) true (wrap64 (x8_1 + 1))) else (none))) = some (r1, r2, r3) := by rw [if_pos rfl] at H; exact H
       clear H
       have H := H1
       clear H1
       by_cases c9 : t285 = 0
       ·rw [if_pos c9] at H
        have c9b0 : (t285 == 0) = true := beq_iff_eq.mpr c9
        have c9b1 : (t285 != 0) = false := bne_eq_false_iff_eq.mpr c9
        clear c9
        simp only [Option.some.injEq, Prod.mk.injEq] at H
        obtain ⟨rfl, rfl, rfl⟩ := H
        have p4 : 0 ≤ (x8_1 : Int) := of_decide_eq_true (by first | (with_reducible assumption) | assumption)
        have q4 : x8_1 < (a0.size : Int) := of_decide_eq_true (by first | (with_reducible assumption) | assumption)
        have hx4 := bt_at a0 x8_1
        replace p4 := eq_true p4
        replace q4 := eq_true q4
        go_wp2_with (first | ((with_reducible refine gate_callee (f := 44) rfl ?_); refine goesL_ (some 19) rfl rfl Tryd.func44 (by kernel_rfl) rfl #[.int .u8 (bt a0 x8_1)] rfl am ?_; (with_reducible refine (carillonref01_kindOf.calls (bt a0 x8_1) t285 _ A5.out).mono ?_); rintro e w' ⟨rfl, ⟨nd, rfl⟩⟩; refine ⟨_, rfl, ?_⟩; have p6 : 0 ≤ (x8_1 : Int) := of_decide_eq_true (by first | (with_reducible assumption) | assumption); have q6 : x8_1 < (a0.size : Int) := of_decide_eq_true (by first | (with_reducible assumption) | assumption); have hx6 := bt_at a0 x8_1; replace p6 := eq_true p6; replace q6 := eq_true q6))
        go_ret3
        exact ⟨_, _, er, by first | exact Kd.R_nil _ _ _ _ _ | exact Kd.N_nil _ _ _ _ _ | exact Kd.V_nil _ _ _ _ _ | exact Kd.Q_nil _ _ _ _ _ | exact Kd.S_nil _ _ _ _ _, by first | exact Kd.R_nil _ _ _ _ _ | exact Kd.N_nil _ _ _ _ _ | exact Kd.V_nil _ _ _ _ _ | exact Kd.Q_nil _ _ _ _ _ | exact Kd.S_nil _ _ _ _ _, bw⟩
       ·rw [if_neg c9] at H
        have c9b0 : (t285 == 0) = false := beq_eq_false_iff_ne.mpr c9
        have c9b1 : (t285 != 0) = true := bne_iff_ne.mpr c9
        by_cases c10 : x6_1.length < 17592186044416
        ·rw [if_pos c10] at H
         have LMc10 := Aside0.mk c10
         clear c10
         obtain ⟨y286, hy286⟩ : ∃ y_ : List Int, y_ = (x6_1 ++ [t285]) := ⟨_, rfl⟩
         replace H : (carillonref01_kinds.l0 k1 a0 x5_1 y286 true (wrap64 (x8_1 + 1))) = some (r1, r2, r3) := by first | (rw [hy286]; with_reducible exact H) | (have H2_ := (Option.bind_some _ _).symm.trans H; rw [hy286]; with_reducible exact H2_) | (have H2_ := (Option.bind_some _ _).symm.trans H; with_reducible exact H2_) | with_reducible exact H | (rw [hy286]; exact H) | exact H
         have Ny286 := Aside0.mk hy286
         clear hy286
         have H' := Aside0.mk H
         clear H
         have p4 : 0 ≤ (x8_1 : Int) := of_decide_eq_true (by first | (with_reducible assumption) | assumption)
         have q4 : x8_1 < (a0.size : Int) := of_decide_eq_true (by first | (with_reducible assumption) | assumption)
         have hx4 := bt_at a0 x8_1
         replace p4 := eq_true p4
         replace q4 := eq_true q4
         go_wp2_with (first | ((with_reducible refine gate_callee (f := 44) rfl ?_); refine goesL_ (some 19) rfl rfl Tryd.func44 (by kernel_rfl) rfl #[.int .u8 (bt a0 x8_1)] rfl am ?_; (with_reducible refine (carillonref01_kindOf.calls (bt a0 x8_1) t285 _ A5.out).mono ?_); rintro e w' ⟨rfl, ⟨nd, rfl⟩⟩; refine ⟨_, rfl, ?_⟩; have p6 : 0 ≤ (x8_1 : Int) := of_decide_eq_true (by first | (with_reducible assumption) | assumption); have q6 : x8_1 < (a0.size : Int) := of_decide_eq_true (by first | (with_reducible assumption) | assumption); have hx6 := bt_at a0 x8_1; replace p6 := eq_true p6; replace q6 := eq_true q6) | ((with_reducible refine gate_builtin (b := .append) (xs := #[.tmp 38, .tmp 40]) rfl ?_); (try (refine gate_guard (by rfl) ?_; dsimp only)); at_builtin; refine Kd.R_append (Kd.int .i64) (w0 := w) w.heap.size rfl (.tmp 38) (.tmp 40) 41 3 (.int .i64 0) 8 rfl Tryd.underlying41 info3 rfl (by decide) (by omega) u6 x6_1 t285 [.int .i64 t285] (fun k_ => some k_ ≠ (u5 : Value).ownBlock) (fun _ => False) rfl rfl ?aP (fun _ hk => hk.elim) ?aF ?aO ?aB ?aS ?aL ?_; (case aP => exact rfl); (case aB => exact bw); (case aF => exact (fun k_ hk => Kd.fresh' (Kd.R_lt (by (with_reducible repeat (first | apply Kd.R_alloc | apply Kd.R_drewN | apply Kd.R_drew)); exact HO_5.out)) k_ hk)); (case aO => exact (by (with_reducible repeat (first | apply Kd.R_alloc | apply Kd.R_drewN | apply Kd.R_drew)); exact HO_6.out)); (case aS => exact (below_size bw)); (case aL => have := LMc10.out; omega); intro v287 w11 ho hb hg hat; rw [← Ny286.out] at ho; have n0_ := Aside0.mk (Kd.R_after (ok := (fun _ => True)) (by (with_reducible repeat (first | apply Kd.R_alloc | apply Kd.R_drewN | apply Kd.R_drew)); exact Kd.R_mono HO_5.out (fun _ hk => ⟨trivial, hk⟩)) hg hat); have n1_ := Aside0.mk (hb); have n2_ := Aside0.mk (ho); clear HO_5; clear HB; clear HO_6; have HO_5 := n0_; have HB := n1_; have HO288 := n2_; clear n0_ n1_ n2_; clear ho hb hg hat))
         go_roundg k1
         case measure => have := HK1.out; omega
         case rel => exact ⟨(x5_1), (y286), (true), (wrap64 (x8_1 + 1)), (by first | rfl | (simp; done) | (simp [*]; done)), (by first | rfl | (simp; done) | (simp [*]; done)), H', ⟨by have := HK1.out; omega⟩, ⟨by (with_reducible repeat (first | apply Kd.R_alloc | apply Kd.R_drewN | apply Kd.R_drew)); exact Kd.R_mono HO_5.out (fun _ hk => hk.2)⟩, ⟨by (with_reducible repeat (first | apply Kd.R_alloc | apply Kd.R_drewN | apply Kd.R_drew)); exact HO288.out⟩, ⟨bw⟩⟩
        ·rw [if_neg c10] at H
         exact absurd H (by simp)
      ·replace c8 := Bool.eq_false_iff.mpr c8
       subst c8
       have H1 : (carillonref01_kinds.l0 k1 a0 x5_1 x6_1 true (wrap64 (x8_1 + 1))) = some (r1, r2, r3) := by rw [if_neg (show ¬ (false = true) by decide)] at H; exact H
       clear H
       have H := H1
       clear H1
       have H' := Aside0.mk H
       clear H
       have p4 : 0 ≤ (x8_1 : Int) := of_decide_eq_true (by first | (with_reducible assumption) | assumption)
       have q4 : x8_1 < (a0.size : Int) := of_decide_eq_true (by first | (with_reducible assumption) | assumption)
       have hx4 := bt_at a0 x8_1
       replace p4 := eq_true p4
       replace q4 := eq_true q4
       go_wp2_with (first | ((with_reducible refine gate_callee (f := 44) rfl ?_); refine goesL_ (some 19) rfl rfl Tryd.func44 (by kernel_rfl) rfl #[.int .u8 (bt a0 x8_1)] rfl am ?_; (with_reducible refine (carillonref01_kindOf.calls (bt a0 x8_1) t285 _ A5.out).mono ?_); rintro e w' ⟨rfl, ⟨nd, rfl⟩⟩; refine ⟨_, rfl, ?_⟩; have p6 : 0 ≤ (x8_1 : Int) := of_decide_eq_true (by first | (with_reducible assumption) | assumption); have q6 : x8_1 < (a0.size : Int) := of_decide_eq_true (by first | (with_reducible assumption) | assumption); have hx6 := bt_at a0 x8_1; replace p6 := eq_true p6; replace q6 := eq_true q6))
       go_roundg k1
       case measure => have := HK1.out; omega
       case rel => exact ⟨(x5_1), (x6_1), (true), (wrap64 (x8_1 + 1)), (by first | rfl | (simp; done) | (simp [*]; done)), (by first | rfl | (simp; done) | (simp [*]; done)), H', ⟨by have := HK1.out; omega⟩, ⟨by (with_reducible repeat (first | apply Kd.R_alloc | apply Kd.R_drewN | apply Kd.R_drew)); exact HO_5.out⟩, ⟨by (with_reducible repeat (first | apply Kd.R_alloc | apply Kd.R_drewN | apply Kd.R_drew)); exact HO_6.out⟩, ⟨bw⟩⟩
     ·rw [if_neg c7] at H
      have c7b0 : ((bt a0 x8_1) == 42) = false := beq_eq_false_iff_ne.mpr c7
      have c7b1 : ((bt a0 x8_1) != 42) = true := bne_iff_ne.mpr c7
      by_cases c12 : t285 = 0
      ·rw [if_pos c12] at H
       have c12b0 : (t285 == 0) = true := beq_iff_eq.mpr c12
       have c12b1 : (t285 != 0) = false := bne_eq_false_iff_eq.mpr c12
       clear c12
       simp only [Option.some.injEq, Prod.mk.injEq] at H
       obtain ⟨rfl, rfl, rfl⟩ := H
       have p4 : 0 ≤ (x8_1 : Int) := of_decide_eq_true (by first | (with_reducible assumption) | assumption)
       have q4 : x8_1 < (a0.size : Int) := of_decide_eq_true (by first | (with_reducible assumption) | assumption)
       have hx4 := bt_at a0 x8_1
       replace p4 := eq_true p4
       replace q4 := eq_true q4
       go_wp2_with (first | ((with_reducible refine gate_callee (f := 44) rfl ?_); refine goesL_ (some 19) rfl rfl Tryd.func44 (by kernel_rfl) rfl #[.int .u8 (bt a0 x8_1)] rfl am ?_; (with_reducible refine (carillonref01_kindOf.calls (bt a0 x8_1) t285 _ A5.out).mono ?_); rintro e w' ⟨rfl, ⟨nd, rfl⟩⟩; refine ⟨_, rfl, ?_⟩; have p6 : 0 ≤ (x8_1 : Int) := of_decide_eq_true (by first | (with_reducible assumption) | assumption); have q6 : x8_1 < (a0.size : Int) := of_decide_eq_true (by first | (with_reducible assumption) | assumption); have hx6 := bt_at a0 x8_1; replace p6 := eq_true p6; replace q6 := eq_true q6))
       go_ret3
       exact ⟨_, _, er, by first | exact Kd.R_nil _ _ _ _ _ | exact Kd.N_nil _ _ _ _ _ | exact Kd.V_nil _ _ _ _ _ | exact Kd.Q_nil _ _ _ _ _ | exact Kd.S_nil _ _ _ _ _, by first | exact Kd.R_nil _ _ _ _ _ | exact Kd.N_nil _ _ _ _ _ | exact Kd.V_nil _ _ _ _ _ | exact Kd.Q_nil _ _ _ _ _ | exact Kd.S_nil _ _ _ _ _, bw⟩
      ·rw [if_neg c12] at H
       have c12b0 : (t285 == 0) = false := beq_eq_false_iff_ne.mpr c12
       have c12b1 : (t285 != 0) = true := bne_iff_ne.mpr c12
       by_cases c13 : x7_1 = true
       ·subst c13
        have H1 : (if x6_1.length < 17592186044416 then (carillonref01_kinds.l0 k1 a0 x5_1 (x6_1 ++ [t285]) true (wrap64 (x8_1 + 1))) else (none)) = some (r1, r2, r3) := by rw [if_pos rfl] at H; exact H
        clear H
        have H := H1
        clear H1
        by_cases c14 : x6_1.length < 17592186044416
        ·rw [if_pos c14] at H
         have LMc14 := Aside0.mk c14
         clear c14
         obtain ⟨y289, hy289⟩ : ∃ y_ : List Int, y_ = (x6_1 ++ [t285]) := ⟨_, rfl⟩
         replace H : (carillonref01_kinds.l0 k1 a0 x5_1 y289 true (wrap64 (x8_1 + 1))) = some (r1, r2, r3) := by first | (rw [hy289]; with_reducible exact H) | (have H2_ := (Option.bind_some _ _).symm.trans H; rw [hy289]; with_reducible exact H2_) | (have H2_ := (Option.bind_some _ _).symm.trans H; with_reducible exact H2_) | with_reducible exact H | (rw [hy289]; exact H) | exact H
         have Ny289 := Aside0.mk hy289
         clear hy289
         have H' := Aside0.mk H
         clear H
         have p4 : 0 ≤ (x8_1 : Int) := of_decide_eq_true (by first | (with_reducible assumption) | assumption)
         have q4 : x8_1 < (a0.size : Int) := of_decide_eq_true (by first | (with_reducible assumption) | assumption)
         have hx4 := bt_at a0 x8_1
         replace p4 := eq_true p4
         replace q4 := eq_true q4
         go_wp2_with (first | ((with_reducible refine gate_callee (f := 44) rfl ?_); refine goesL_ (some 19) rfl rfl Tryd.func44 (by kernel_rfl) rfl #[.int .u8 (bt a0 x8_1)] rfl am ?_; (with_reducible refine (carillonref01_kindOf.calls (bt a0 x8_1) t285 _ A5.out).mono ?_); rintro e w' ⟨rfl, ⟨nd, rfl⟩⟩; refine ⟨_, rfl, ?_⟩; have p6 : 0 ≤ (x8_1 : Int) := of_decide_eq_true (by first | (with_reducible assumption) | assumption); have q6 : x8_1 < (a0.size : Int) := of_decide_eq_true (by first | (with_reducible assumption) | assumption); have hx6 := bt_at a0 x8_1; replace p6 := eq_true p6; replace q6 := eq_true q6) | ((with_reducible refine gate_builtin (b := .append) (xs := #[.tmp 38, .tmp 40]) rfl ?_); (try (refine gate_guard (by rfl) ?_; dsimp only)); at_builtin; refine Kd.R_append (Kd.int .i64) (w0 := w) w.heap.size rfl (.tmp 38) (.tmp 40) 41 3 (.int .i64 0) 8 rfl Tryd.underlying41 info3 rfl (by decide) (by omega) u6 x6_1 t285 [.int .i64 t285] (fun k_ => some k_ ≠ (u5 : Value).ownBlock) (fun _ => False) rfl rfl ?aP (fun _ hk => hk.elim) ?aF ?aO ?aB ?aS ?aL ?_; (case aP => exact rfl); (case aB => exact bw); (case aF => exact (fun k_ hk => Kd.fresh' (Kd.R_lt (by (with_reducible repeat (first | apply Kd.R_alloc | apply Kd.R_drewN | apply Kd.R_drew)); exact HO_5.out)) k_ hk)); (case aO => exact (by (with_reducible repeat (first | apply Kd.R_alloc | apply Kd.R_drewN | apply Kd.R_drew)); exact HO_6.out)); (case aS => exact (below_size bw)); (case aL => have := LMc14.out; omega); intro v290 w15 ho hb hg hat; rw [← Ny289.out] at ho; have n0_ := Aside0.mk (Kd.R_after (ok := (fun _ => True)) (by (with_reducible repeat (first | apply Kd.R_alloc | apply Kd.R_drewN | apply Kd.R_drew)); exact Kd.R_mono HO_5.out (fun _ hk => ⟨trivial, hk⟩)) hg hat); have n1_ := Aside0.mk (hb); have n2_ := Aside0.mk (ho); clear HO_5; clear HB; clear HO_6; have HO_5 := n0_; have HB := n1_; have HO291 := n2_; clear n0_ n1_ n2_; clear ho hb hg hat))
         go_roundg k1
         case measure => have := HK1.out; omega
         case rel => exact ⟨(x5_1), (y289), (true), (wrap64 (x8_1 + 1)), (by first | rfl | (simp; done) | (simp [*]; done)), (by first | rfl | (simp; done) | (simp [*]; done)), H', ⟨by have := HK1.out; omega⟩, ⟨by (with_reducible repeat (first | apply Kd.R_alloc | apply Kd.R_drewN | apply Kd.R_drew)); exact Kd.R_mono HO_5.out (fun _ hk => hk.2)⟩, ⟨by (with_reducible repeat (first | apply Kd.R_alloc | apply Kd.R_drewN | apply Kd.R_drew)); exact HO291.out⟩, ⟨bw⟩⟩
        ·rw [if_neg c14] at H
         exact absurd H (by simp)
       ·replace c13 := Bool.eq_false_iff.mpr c13
        subst c13
        have H1 : (if x5_1.length < 17592186044416 then (carillonref01_kinds.l0 k1 a0 (x5_1 ++ [t285]) x6_1 false (wrap64 (x8_1 + 1))) else (none)) = some (r1, r2, r3) := by rw [if_neg (show ¬ (false = true) by decide)] at H; exact H
        clear H
        have H := H1
        clear H1
        by_cases c16 : x5_1.length < 17592186044416
        ·rw [if_pos c16] at H
         have LMc16 := Aside0.mk c16
         clear c16
         obtain ⟨y292, hy292⟩ : ∃ y_ : List Int, y_ = (x5_1 ++ [t285]) := ⟨_, rfl⟩
         replace H : (carillonref01_kinds.l0 k1 a0 y292 x6_1 false (wrap64 (x8_1 + 1))) = some (r1, r2, r3) := by first | (rw [hy292]; with_reducible exact H) | (have H2_ := (Option.bind_some _ _).symm.trans H; rw [hy292]; with_reducible exact H2_) | (have H2_ := (Option.bind_some _ _).symm.trans H; with_reducible exact H2_) | with_reducible exact H | (rw [hy292]; exact H) | exact H
         have Ny292 := Aside0.mk hy292
         clear hy292
         have H' := Aside0.mk H
         clear H
         have p4 : 0 ≤ (x8_1 : Int) := of_decide_eq_true (by first | (with_reducible assumption) | assumption)
         have q4 : x8_1 < (a0.size : Int) := of_decide_eq_true (by first | (with_reducible assumption) | assumption)
         have hx4 := bt_at a0 x8_1
         replace p4 := eq_true p4
         replace q4 := eq_true q4
         go_wp2_with (first | ((with_reducible refine gate_callee (f := 44) rfl ?_); refine goesL_ (some 19) rfl rfl Tryd.func44 (by kernel_rfl) rfl #[.int .u8 (bt a0 x8_1)] rfl am ?_; (with_reducible refine (carillonref01_kindOf.calls (bt a0 x8_1) t285 _ A5.out).mono ?_); rintro e w' ⟨rfl, ⟨nd, rfl⟩⟩; refine ⟨_, rfl, ?_⟩; have p6 : 0 ≤ (x8_1 : Int) := of_decide_eq_true (by first | (with_reducible assumption) | assumption); have q6 : x8_1 < (a0.size : Int) := of_decide_eq_true (by first | (with_reducible assumption) | assumption); have hx6 := bt_at a0 x8_1; replace p6 := eq_true p6; replace q6 := eq_true q6) | ((with_reducible refine gate_builtin (b := .append) (xs := #[.tmp 20, .tmp 22]) rfl ?_); (try (refine gate_guard (by rfl) ?_; dsimp only)); at_builtin; refine Kd.R_append (Kd.int .i64) (w0 := w) w.heap.size rfl (.tmp 20) (.tmp 22) 41 3 (.int .i64 0) 8 rfl Tryd.underlying41 info3 rfl (by decide) (by omega) u5 x5_1 t285 [.int .i64 t285] (fun k_ => some k_ ≠ (u6 : Value).ownBlock) (fun _ => False) rfl rfl ?aP (fun _ hk => hk.elim) ?aF ?aO ?aB ?aS ?aL ?_; (case aP => exact rfl); (case aB => exact bw); (case aF => exact (fun k_ hk => Kd.fresh' (Kd.R_lt (by (with_reducible repeat (first | apply Kd.R_alloc | apply Kd.R_drewN | apply Kd.R_drew)); exact HO_6.out)) k_ hk)); (case aO => exact (by (with_reducible repeat (first | apply Kd.R_alloc | apply Kd.R_drewN | apply Kd.R_drew)); exact HO_5.out)); (case aS => exact (below_size bw)); (case aL => have := LMc16.out; omega); intro v293 w17 ho hb hg hat; rw [← Ny292.out] at ho; have n0_ := Aside0.mk (Kd.R_after (ok := (fun _ => True)) (by (with_reducible repeat (first | apply Kd.R_alloc | apply Kd.R_drewN | apply Kd.R_drew)); exact Kd.R_mono HO_6.out (fun _ hk => ⟨trivial, hk⟩)) hg hat); have n1_ := Aside0.mk (hb); have n2_ := Aside0.mk (ho); clear HO_6; clear HB; clear HO_5; have HO_6 := n0_; have HB := n1_; have HO294 := n2_; clear n0_ n1_ n2_; clear ho hb hg hat))
         go_roundg k1
         case measure => have := HK1.out; omega
         case rel => exact ⟨(y292), (x6_1), (false), (wrap64 (x8_1 + 1)), (by first | rfl | (simp; done) | (simp [*]; done)), (by first | rfl | (simp; done) | (simp [*]; done)), H', ⟨by have := HK1.out; omega⟩, ⟨by (with_reducible repeat (first | apply Kd.R_alloc | apply Kd.R_drewN | apply Kd.R_drew)); exact HO294.out⟩, ⟨by (with_reducible repeat (first | apply Kd.R_alloc | apply Kd.R_drewN | apply Kd.R_drew)); exact Kd.R_mono HO_6.out (fun _ hk => hk.2)⟩, ⟨bw⟩⟩
        ·rw [if_neg c16] at H
         exact absurd H (by simp)
    ·rw [if_neg c3] at H
     exact absurd H (by simp)
   ·rw [if_neg c2] at H
    have c2b0 : decide (x8_1 < (a0.size : Int)) = false := decide_eq_false c2
    clear c2
    by_cases c18 : x7_1 = true
    ·subst c18
     have H1 : (some (x5_1, x6_1, decide ((x6_1.length : Int) > 0))) = some (r1, r2, r3) := by rw [if_pos rfl] at H; exact H
     clear H
     have H := H1
     clear H1
     simp only [Option.some.injEq, Prod.mk.injEq] at H
     obtain ⟨rfl, rfl, rfl⟩ := H
     obtain ⟨Ao19, co19, eo19⟩ := Kd.R_slice HO_6.out
     subst eo19
     go_wp2
     go_ret3
     exact ⟨_, _, er, by (with_reducible repeat (first | apply Kd.R_alloc | apply Kd.R_drewN | apply Kd.R_drew)); exact HO_5.out, by (with_reducible repeat (first | apply Kd.R_alloc | apply Kd.R_drewN | apply Kd.R_drew)); exact HO_6.out, bw⟩
    ·replace c18 := Bool.eq_false_iff.mpr c18
     subst c18
     have H1 : (some (x5_1, x6_1, true)) = some (r1, r2, r3) := by rw [if_neg (show ¬ (false = true) by decide)] at H; exact H
     clear H
     have H := H1
     clear H1
     simp only [Option.some.injEq, Prod.mk.injEq] at H
     obtain ⟨rfl, rfl, rfl⟩ := H
     go_wp2
     go_ret3
     exact ⟨_, _, er, by (with_reducible repeat (first | apply Kd.R_alloc | apply Kd.R_drewN | apply Kd.R_drew)); exact HO_5.out, by (with_reducible repeat (first | apply Kd.R_alloc | apply Kd.R_drewN | apply Kd.R_drew)); exact HO_6.out, bw⟩

end Go.Proofs.YtbcpjegakjcmgaaDoor.P
