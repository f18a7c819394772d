-- Printed by this session's program wip/xp.py (a turned copy of the kit's printer): functions, their contracts.
import Derived.Test.YtpgiagdpepkooaaDoorPx0
import Derived.Test.YtpgiagdpepkooaaDoorPx13
import Derived.Test.YtpgiagdpepkooaaDoorPx30
namespace Go.Proofs.YtpgiagdpepkooaaDoor.P
open Go.RowKit Go.Proofs.YtpgiagdpepkooaaDoorW.PrintWords Go.Proofs.YtpgiagdpepkooaaDoorW.PrintLast Go.Proofs.YtpgiagdpepkooaaDoorW.PrintMore
attribute [local go_sem] max2_int min2_int max_two min_two max_three min_three max_four min_four   -- for this text's walks alone
set_option linter.unusedVariables false
set_option linter.unusedSimpArgs false

/-! ### carillonref14_Right: function 17 -/
mutual
def carillonref14_Right.j0 : Nat → Bool → Bool → Bool → Bool → Bool → Int → ByteArray → ByteArray → Int → ByteArray → ByteArray → Int → Int → Int → Option (Bool)
 | 0, _, _, _, _, _, _, _, _, _, _, _, _, _, _ => none
 | k + 1, x3, x4, x5, x6, x60, x368000, x368001, x368002, x368003, x368004, x368005, x368006, x368007, x368008 => if x60 = true then (some false) else ((carillonref14_Word.f k x368001).bind fun t373 => ((carillonref14_Word.f k x368002).bind fun t374 => (if (x3 != t373) = true then (carillonref14_Right.j1 k x5 x6 true x368000 x368001 x368002 x368003 x368004 x368005 x368006 x368007 x368008) else (if x3 = true then (if (x4 != t374) = true then (carillonref14_Right.j1 k x5 x6 true x368000 x368001 x368002 x368003 x368004 x368005 x368006 x368007 x368008) else (if x4 = true then (carillonref14_Right.j1 k x5 x6 false x368000 x368001 x368002 x368003 x368004 x368005 x368006 x368007 x368008) else (carillonref14_Right.j1 k x5 x6 (x368002.toList != ([] : List UInt8)) x368000 x368001 x368002 x368003 x368004 x368005 x368006 x368007 x368008))) else (if x368001.toList = ([] : List UInt8) then (if (x4 != t374) = true then (carillonref14_Right.j1 k x5 x6 true x368000 x368001 x368002 x368003 x368004 x368005 x368006 x368007 x368008) else (if x4 = true then (carillonref14_Right.j1 k x5 x6 false x368000 x368001 x368002 x368003 x368004 x368005 x368006 x368007 x368008) else (carillonref14_Right.j1 k x5 x6 (x368002.toList != ([] : List UInt8)) x368000 x368001 x368002 x368003 x368004 x368005 x368006 x368007 x368008))) else (carillonref14_Right.j1 k x5 x6 true x368000 x368001 x368002 x368003 x368004 x368005 x368006 x368007 x368008))))))
def carillonref14_Right.j1 : Nat → Bool → Bool → Bool → Int → ByteArray → ByteArray → Int → ByteArray → ByteArray → Int → Int → Int → Option (Bool)
 | 0, _, _, _, _, _, _, _, _, _, _, _, _ => none
 | k + 1, x5, x6, x92, x368000, x368001, x368002, x368003, x368004, x368005, x368006, x368007, x368008 => if x92 = true then (some false) else (if x5 = true then (if (x368004.size : Int) > 100 then (carillonref14_Right.j2 k x6 true x368000 x368001 x368002 x368003 x368004 x368005 x368006 x368007 x368008) else (carillonref14_Right.j2 k x6 (decide ((x368005.size : Int) > 1000)) x368000 x368001 x368002 x368003 x368004 x368005 x368006 x368007 x368008)) else (if x368003 = 0 then (if x368004.toList = ([] : List UInt8) then (if x368005.toList = ([] : List UInt8) then (if (x368004.size : Int) > 100 then (carillonref14_Right.j2 k x6 true x368000 x368001 x368002 x368003 x368004 x368005 x368006 x368007 x368008) else (carillonref14_Right.j2 k x6 (decide ((x368005.size : Int) > 1000)) x368000 x368001 x368002 x368003 x368004 x368005 x368006 x368007 x368008)) else (carillonref14_Right.j2 k x6 true x368000 x368001 x368002 x368003 x368004 x368005 x368006 x368007 x368008)) else (carillonref14_Right.j2 k x6 true x368000 x368001 x368002 x368003 x368004 x368005 x368006 x368007 x368008)) else (carillonref14_Right.j2 k x6 true x368000 x368001 x368002 x368003 x368004 x368005 x368006 x368007 x368008)))
def carillonref14_Right.j2 : Nat → Bool → Bool → Int → ByteArray → ByteArray → Int → ByteArray → ByteArray → Int → Int → Int → Option (Bool)
 | 0, _, _, _, _, _, _, _, _, _, _, _ => none
 | k + 1, x6, x121, x368000, x368001, x368002, x368003, x368004, x368005, x368006, x368007, x368008 => if x121 = true then (some false) else (if x6 = true then (if x368000 = 5 then (if x368006 ≥ 1 then (some (decide (x368006 ≤ 50))) else (some false)) else (if x368000 = 10 then (if x368006 ≥ 0 then (some (decide (x368006 < 7))) else (some false)) else (if x368000 = 11 then (if x368006 ≥ 0 then (some (decide (x368006 < 7))) else (some false)) else (if x368000 = 3 then (some true) else (some (decide (x368006 ≥ 0))))))) else (some (x368006 == 0)))
end
def carillonref14_Right.f (k : Nat) (a0_0 : Int) (a0_1 : ByteArray) (a0_2 : ByteArray) (a0_3 : Int) (a0_4 : ByteArray) (a0_5 : ByteArray) (a0_6 : Int) (a0_7 : Int) (a0_8 : Int) : Option (Bool) := (carillonref14_need.f a0_0).bind fun bt368 => (if bt368.2.2.2.2 = true then (if a0_7 < 0 then (carillonref14_Right.j0 k bt368.1 bt368.2.1 bt368.2.2.1 bt368.2.2.2.1 true a0_0 a0_1 a0_2 a0_3 a0_4 a0_5 a0_6 a0_7 a0_8) else (if a0_7 > 6 then (carillonref14_Right.j0 k bt368.1 bt368.2.1 bt368.2.2.1 bt368.2.2.2.1 true a0_0 a0_1 a0_2 a0_3 a0_4 a0_5 a0_6 a0_7 a0_8) else (if a0_8 < 0 then (carillonref14_Right.j0 k bt368.1 bt368.2.1 bt368.2.2.1 bt368.2.2.2.1 true a0_0 a0_1 a0_2 a0_3 a0_4 a0_5 a0_6 a0_7 a0_8) else (if a0_8 > 9007199254740991 then (carillonref14_Right.j0 k bt368.1 bt368.2.1 bt368.2.2.1 bt368.2.2.2.1 true a0_0 a0_1 a0_2 a0_3 a0_4 a0_5 a0_6 a0_7 a0_8) else (if a0_3 < 0 then (carillonref14_Right.j0 k bt368.1 bt368.2.1 bt368.2.2.1 bt368.2.2.2.1 true a0_0 a0_1 a0_2 a0_3 a0_4 a0_5 a0_6 a0_7 a0_8) else (if a0_3 > 9007199254740991 then (carillonref14_Right.j0 k bt368.1 bt368.2.1 bt368.2.2.1 bt368.2.2.2.1 true a0_0 a0_1 a0_2 a0_3 a0_4 a0_5 a0_6 a0_7 a0_8) else (if a0_6 < (-1) then (carillonref14_Right.j0 k bt368.1 bt368.2.1 bt368.2.2.1 bt368.2.2.2.1 true a0_0 a0_1 a0_2 a0_3 a0_4 a0_5 a0_6 a0_7 a0_8) else (carillonref14_Right.j0 k bt368.1 bt368.2.1 bt368.2.2.1 bt368.2.2.2.1 (decide (a0_6 > 9007199254740991)) a0_0 a0_1 a0_2 a0_3 a0_4 a0_5 a0_6 a0_7 a0_8)))))))) else (carillonref14_Right.j0 k bt368.1 bt368.2.1 bt368.2.2.1 bt368.2.2.2.1 true a0_0 a0_1 a0_2 a0_3 a0_4 a0_5 a0_6 a0_7 a0_8))
set_option maxHeartbeats 8000000 in
set_option maxRecDepth 100000 in
theorem carillonref14_Right.calls (k : Nat) (a0_0 : Int) (a0_1 : ByteArray) (a0_2 : ByteArray) (a0_3 : Int) (a0_4 : ByteArray) (a0_5 : ByteArray) (a0_6 : Int) (a0_7 : Int) (a0_8 : Int) (r : Bool) (w : World) (h : carillonref14_Right.f k a0_0 a0_1 a0_2 a0_3 a0_4 a0_5 a0_6 a0_7 a0_8 = some r) :
  Calls Tryd.prog 17 #[.agg #[.int .i64 a0_0, .string a0_1, .string a0_2, .int .i64 a0_3, .string a0_4, .string a0_5, .int .i64 a0_6, .int .i64 a0_7, .int .i64 a0_8]] w fun e w' => e = .returned (.bool r) ∧ Below w.heap.size w w' := by
 have hu23 := Tryd.underlying23
 have HB := Aside0.mk (Below.refl w.heap.size w)
 have H := h
 unfold carillonref14_Right.f at H
 clear h
 replace H := Option.bind_eq_some_iff.mp H
 obtain ⟨⟨t368, t369, t370, t371, t372⟩, A20, H⟩ := H
 replace H : (if t372 = true then (if a0_7 < 0 then (carillonref14_Right.j0 k t368 t369 t370 t371 true a0_0 a0_1 a0_2 a0_3 a0_4 a0_5 a0_6 a0_7 a0_8) else (if a0_7 > 6 then (carillonref14_Right.j0 k t368 t369 t370 t371 true a0_0 a0_1 a0_2 a0_3 a0_4 a0_5 a0_6 a0_7 a0_8) else (if a0_8 < 0 then (carillonref14_Right.j0 k t368 t369 t370 t371 true a0_0 a0_1 a0_2 a0_3 a0_4 a0_5 a0_6 a0_7 a0_8) else (if a0_8 > 9007199254740991 then (carillonref14_Right.j0 k t368 t369 t370 t371 true a0_0 a0_1 a0_2 a0_3 a0_4 a0_5 a0_6 a0_7 a0_8) else (if a0_3 < 0 then (carillonref14_Right.j0 k t368 t369 t370 t371 true a0_0 a0_1 a0_2 a0_3 a0_4 a0_5 a0_6 a0_7 a0_8) else (if a0_3 > 9007199254740991 then (carillonref14_Right.j0 k t368 t369 t370 t371 true a0_0 a0_1 a0_2 a0_3 a0_4 a0_5 a0_6 a0_7 a0_8) else (if a0_6 < (-1) then (carillonref14_Right.j0 k t368 t369 t370 t371 true a0_0 a0_1 a0_2 a0_3 a0_4 a0_5 a0_6 a0_7 a0_8) else (carillonref14_Right.j0 k t368 t369 t370 t371 (decide (a0_6 > 9007199254740991)) a0_0 a0_1 a0_2 a0_3 a0_4 a0_5 a0_6 a0_7 a0_8)))))))) else (carillonref14_Right.j0 k t368 t369 t370 t371 true a0_0 a0_1 a0_2 a0_3 a0_4 a0_5 a0_6 a0_7 a0_8)) = some r := H
 have A2 := Aside0.mk A20
 clear A20
 have HC3 := Aside0.mk H
 clear H
 go_enter Tryd.func17, Tryd.ntmps17
 go_upto_region 2 with (first | ((with_reducible refine gate_dst (N := 1) rfl ?_); (try (refine gate_guard (by rfl) ?_; dsimp only)); refine box_event ?hg (N := 1) ?hd (cs := #[.int .i64 a0_0, .string a0_1, .string a0_2, .int .i64 a0_3, .string a0_4, .string a0_5, .int .i64 a0_6, .int .i64 a0_7, .int .i64 a0_8]) (t := 23) ?hr ?_; (case hd => rfl); (case hg => rfl); (case hr => first | (go_simp; done) | (go_simp; rfl)); intro en hg w4 hbox hb; have aa := Aside0.mk (hbox); have GW367 := Aside0.mk ((g1 hg bw : w.heap.size ≤ en)); have GE367 := Aside0.mk ((g1 hg bw : w.heap.size ≤ en)); replace HB := Aside0.mk (below_step bw hb); clear hb hbox hg; obtain ⟨ep, eq, es, et, eu, ev, ew, ex, ey, ez, e0, e1, e2, e3, e4, e5, e6, e7⟩ := bx9 aa.out) | ((with_reducible refine gate_callee (f := 44) rfl ?_); refine goesL_ (some 13) rfl rfl Tryd.func44 (by kernel_rfl) rfl #[.int .i64 a0_0] rfl am ?_; (with_reducible refine (carillonref14_need.calls a0_0 t368 t369 t370 t371 t372 _ A2.out).mono ?_); rintro e w' ⟨rfl, ⟨nd, rfl⟩⟩; refine ⟨_, rfl, ?_⟩))
 (try simp only [Act.put, sl1, sl2, sl3])
 go_cut [60] (fun v60 wc => ∃ (kq : Nat) (x60_2 : Bool), v60 = .bool x60_2 ∧ Aside0 (carillonref14_Right.j0 kq t368 t369 t370 t371 x60_2 a0_0 a0_1 a0_2 a0_3 a0_4 a0_5 a0_6 a0_7 a0_8 = some r) ∧ Aside0 (kq ≤ k) ∧ Aside0 (wc.heap[en]? = some (.cells #[.int .i64 a0_0, .string a0_1, .string a0_2, .int .i64 a0_3, .string a0_4, .string a0_5, .int .i64 a0_6, .int .i64 a0_7, .int .i64 a0_8] 23 (0, 0))) ∧ Aside0 (Below w.heap.size w wc))
 case first =>
  have H := HC3.out
  clear HC3
  by_cases c6 : t372 = true; rotate_left
  ·replace c6 := Bool.eq_false_iff.mpr c6
   subst c6
   have H1 : (carillonref14_Right.j0 k t368 t369 t370 t371 true a0_0 a0_1 a0_2 a0_3 a0_4 a0_5 a0_6 a0_7 a0_8) = some r := by rw [if_neg (show ¬ (false = true) by decide)] at H; exact H
   clear H
   have H := H1
   clear H1
   have H' := Aside0.mk H
   clear H
   go_wp2
   go_meet
   case rel => exact ⟨_, (true), (by first | rfl | (simp; done) | (simp [*]; done)), H', ⟨by first | omega | exact Nat.le_refl _⟩, ⟨by (with_reducible repeat (first | refine blk_drewN ?_ _ | refine blk_drew ?_ | refine blk_alloc ?_ _)); exact aa.out⟩, ⟨bw⟩⟩
  subst c6
  have H1 := H
  rw [if_pos rfl] at H1
  clear H
  have H := H1
  clear H1
  by_cases c7 : a0_7 < 0
  ·rw [if_pos c7] at H
   have eo : decide (a0_7 < 0) = true := decide_eq_true c7
   clear c7
   (first | rw [eo] | (simp only [i64_w, i32_w]; rw [eo]) | skip)
   have H' := Aside0.mk H
   clear H
   obtain ⟨e8, e9, fa, fb, fc, fd, fe, ff, fg, fh, fi, fj, fk, fl, fm, fn, fo, fp⟩ := bx9 aa.out
   go_wp2
   go_meet
   case rel => exact ⟨_, (true), (by first | rfl | (simp; done) | (simp [*]; done)), H', ⟨by first | omega | exact Nat.le_refl _⟩, ⟨by (with_reducible repeat (first | refine blk_drewN ?_ _ | refine blk_drew ?_ | refine blk_alloc ?_ _)); exact aa.out⟩, ⟨bw⟩⟩
  rw [if_neg c7] at H
  have eo : decide (a0_7 < 0) = false := decide_eq_false c7
  clear c7
  (first | rw [eo] | (simp only [i64_w, i32_w]; rw [eo]) | skip)
  by_cases c9 : a0_7 > 6
  ·rw [if_pos c9] at H
   have jj : decide (6 < a0_7) = true := decide_eq_true c9
   clear c9
   have H' := Aside0.mk H
   clear H
   obtain ⟨ae, af, ag, ah, ai, aj, ak, al, an, ao, ap, aq, ar, au, av, aw, ax, ay⟩ := bx9 aa.out
   go_wp2
   go_meet
   case rel => exact ⟨_, (true), (by first | rfl | (simp; done) | (simp [*]; done)), H', ⟨by first | omega | exact Nat.le_refl _⟩, ⟨by (with_reducible repeat (first | refine blk_drewN ?_ _ | refine blk_drew ?_ | refine blk_alloc ?_ _)); exact aa.out⟩, ⟨bw⟩⟩
  rw [if_neg c9] at H
  have jj : decide (6 < a0_7) = false := decide_eq_false c9
  clear c9
  by_cases c11 : a0_8 < 0
  ·rw [if_pos c11] at H
   have fr : decide (a0_8 < 0) = true := decide_eq_true c11
   clear c11
   have H' := Aside0.mk H
   clear H
   obtain ⟨az, a9, ba, bb, bc, bd, be, bf, bg, bh, bi, bj, bl, bm, bn, bo, bp, bq⟩ := bx9 aa.out
   go_wp2
   go_meet
   case rel => exact ⟨_, (true), (by first | rfl | (simp; done) | (simp [*]; done)), H', ⟨by first | omega | exact Nat.le_refl _⟩, ⟨by (with_reducible repeat (first | refine blk_drewN ?_ _ | refine blk_drew ?_ | refine blk_alloc ?_ _)); exact aa.out⟩, ⟨bw⟩⟩
  rw [if_neg c11] at H
  have fr : decide (a0_8 < 0) = false := decide_eq_false c11
  clear c11
  by_cases c13 : a0_8 > 9007199254740991
  ·rw [if_pos c13] at H
   have fs : decide (9007199254740991 < a0_8) = true := decide_eq_true c13
   clear c13
   have H' := Aside0.mk H
   clear H
   obtain ⟨br, bs, bu, bv, bx, b0, b1, b2, b3, b4, b5, b6, b7, b8, b9, ca, cb, cc⟩ := bx9 aa.out
   go_wp2
   go_meet
   case rel => exact ⟨_, (true), (by first | rfl | (simp; done) | (simp [*]; done)), H', ⟨by first | omega | exact Nat.le_refl _⟩, ⟨by (with_reducible repeat (first | refine blk_drewN ?_ _ | refine blk_drew ?_ | refine blk_alloc ?_ _)); exact aa.out⟩, ⟨bw⟩⟩
  rw [if_neg c13] at H
  have fs : decide (9007199254740991 < a0_8) = false := decide_eq_false c13
  clear c13
  by_cases c15 : a0_3 < 0
  ·rw [if_pos c15] at H
   have ft : decide (a0_3 < 0) = true := decide_eq_true c15
   clear c15
   have H' := Aside0.mk H
   clear H
   obtain ⟨cd, ce, cg, ch, ci, cj, ck, cl, cm, cn, co, cp, cq, cr, ct, cu, cv, cw⟩ := bx9 aa.out
   go_wp2
   go_meet
   case rel => exact ⟨_, (true), (by first | rfl | (simp; done) | (simp [*]; done)), H', ⟨by first | omega | exact Nat.le_refl _⟩, ⟨by (with_reducible repeat (first | refine blk_drewN ?_ _ | refine blk_drew ?_ | refine blk_alloc ?_ _)); exact aa.out⟩, ⟨bw⟩⟩
  rw [if_neg c15] at H
  have ft : decide (a0_3 < 0) = false := decide_eq_false c15
  clear c15
  by_cases c17 : a0_3 > 9007199254740991
  ·rw [if_pos c17] at H
   have fu : decide (9007199254740991 < a0_3) = true := decide_eq_true c17
   clear c17
   have H' := Aside0.mk H
   clear H
   obtain ⟨cx, cy, cz, c0, c5, c8, da, db, dc, dd, de, df, dg, dh, di, dj, dk, dl⟩ := bx9 aa.out
   go_wp2
   go_meet
   case rel => exact ⟨_, (true), (by first | rfl | (simp; done) | (simp [*]; done)), H', ⟨by first | omega | exact Nat.le_refl _⟩, ⟨by (with_reducible repeat (first | refine blk_drewN ?_ _ | refine blk_drew ?_ | refine blk_alloc ?_ _)); exact aa.out⟩, ⟨bw⟩⟩
  rw [if_neg c17] at H
  have fu : decide (9007199254740991 < a0_3) = false := decide_eq_false c17
  clear c17
  by_cases c19 : a0_6 < (-1); rotate_left
  ·rw [if_neg c19] at H
   have fv : decide (a0_6 < (-1)) = false := decide_eq_false c19
   clear c19
   have H' := Aside0.mk H
   clear H
   obtain ⟨d5, d6, d7, d8, d9, ea, eb, ec, ed, ee, ef, eg, eh, ei, ej, ek, el, em⟩ := bx9 aa.out
   go_wp2
   go_meet
   case rel => exact ⟨_, (decide (a0_6 > 9007199254740991)), (by first | rfl | (simp; done) | (simp [*]; done)), H', ⟨by first | omega | exact Nat.le_refl _⟩, ⟨by (with_reducible repeat (first | refine blk_drewN ?_ _ | refine blk_drew ?_ | refine blk_alloc ?_ _)); exact aa.out⟩, ⟨bw⟩⟩
  rw [if_pos c19] at H
  have fv : decide (a0_6 < (-1)) = true := decide_eq_true c19
  clear c19
  have H' := Aside0.mk H
  clear H
  obtain ⟨dm, dn, dp, dq, dr, ds, dt, du, dv, dw, dx, dy, dz, d0, d1, d2, d3, d4⟩ := bx9 aa.out
  go_wp2
  go_meet
  case rel => exact ⟨_, (true), (by first | rfl | (simp; done) | (simp [*]; done)), H', ⟨by first | omega | exact Nat.le_refl _⟩, ⟨by (with_reducible repeat (first | refine blk_drewN ?_ _ | refine blk_drew ?_ | refine blk_alloc ?_ _)); exact aa.out⟩, ⟨bw⟩⟩
 case rest =>
  clear HC3
  try clear c1
  try clear p2
  try clear c4
  try clear c6
  try clear c7
  try clear eo
  try clear c9
  try clear jj
  try clear c11
  try clear fr
  try clear c13
  try clear fs
  try clear c15
  try clear ft
  try clear c17
  try clear fu
  try clear c19
  try clear fv
  try clear ae af ag ah ai aj ak al an az a9 ba bb bc bd be bf bg br bs bu bv bx b0 b1 b2 b3 cd ce cg ch ci cj ck cl cm cx cy cz c0 c5 c8 da db dc dm dn dp dq dr ds dt du dv d5 d6 d7 d8 d9 ea eb ec ed ep eq es et eu ev ew ex ey e8 e9 fa fb fc fd fe ff fg
  try clear ao ap aq ar au av aw ax ay bh bi bj bl bm bn bo bp bq b4 b5 b6 b7 b8 b9 ca cb cc cn co cp cq cr ct cu cv cw dd de df dg dh di dj dk dl dw dx dy dz d0 d1 d2 d3 d4 ee ef eg eh ei ej ek el em ez e0 e1 e2 e3 e4 e5 e6 e7 fh fi fj fk fl fm fn fo fp
  obtain ⟨kq, x60_2, rfl, HA, HJ2, aa, HB⟩ := hcut
  cases kq with
  | zero => exact absurd HA.out (by simp [carillonref14_Right.j0])
  | succ kj2 =>
   have H := HA.out
   clear HA
   simp only [carillonref14_Right.j0] at H
   by_cases c22 : x60_2 = true
   ·subst c22
    have H1 : (some false) = some r := by rw [if_pos rfl] at H; exact H
    clear H
    have H := H1
    clear H1
    obtain rfl := Option.some.inj H
    go_wp2
    go_ret
    exact ⟨er, bw⟩
   replace c22 := Bool.eq_false_iff.mpr c22
   subst c22
   have H1 : ((carillonref14_Word.f kj2 a0_1).bind fun t373 => ((carillonref14_Word.f kj2 a0_2).bind fun t374 => (if (t368 != t373) = true then (carillonref14_Right.j1 kj2 t370 t371 true a0_0 a0_1 a0_2 a0_3 a0_4 a0_5 a0_6 a0_7 a0_8) else (if t368 = true then (if (t369 != t374) = true then (carillonref14_Right.j1 kj2 t370 t371 true a0_0 a0_1 a0_2 a0_3 a0_4 a0_5 a0_6 a0_7 a0_8) else (if t369 = true then (carillonref14_Right.j1 kj2 t370 t371 false a0_0 a0_1 a0_2 a0_3 a0_4 a0_5 a0_6 a0_7 a0_8) else (carillonref14_Right.j1 kj2 t370 t371 (a0_2.toList != ([] : List UInt8)) a0_0 a0_1 a0_2 a0_3 a0_4 a0_5 a0_6 a0_7 a0_8))) else (if a0_1.toList = ([] : List UInt8) then (if (t369 != t374) = true then (carillonref14_Right.j1 kj2 t370 t371 true a0_0 a0_1 a0_2 a0_3 a0_4 a0_5 a0_6 a0_7 a0_8) else (if t369 = true then (carillonref14_Right.j1 kj2 t370 t371 false a0_0 a0_1 a0_2 a0_3 a0_4 a0_5 a0_6 a0_7 a0_8) else (carillonref14_Right.j1 kj2 t370 t371 (a0_2.toList != ([] : List UInt8)) a0_0 a0_1 a0_2 a0_3 a0_4 a0_5 a0_6 a0_7 a0_8))) else (carillonref14_Right.j1 kj2 t370 t371 true a0_0 a0_1 a0_2 a0_3 a0_4 a0_5 a0_6 a0_7 a0_8)))))) = some r := by rw [if_neg (show ¬ (false = true) by decide)] at H; exact H
   clear H
   have H := H1
   clear H1
   replace H := Option.bind_eq_some_iff.mp H
   obtain ⟨t373, A230, H⟩ := H
   have A23 := Aside0.mk A230
   clear A230
   replace H := Option.bind_eq_some_iff.mp H
   obtain ⟨t374, A240, H⟩ := H
   have A24 := Aside0.mk A240
   clear A240
   have HC25 := Aside0.mk H
   clear H
   obtain ⟨fw, fx, fy, fz, f0, f1, f2, f3, f4, f5, f6, f7, f8, f9, ga, gb, gc, gd⟩ := bx9 aa.out
   go_upto_region 6 with (first | ((with_reducible refine gate_callee (f := 19) rfl ?_); refine goesL_ (some 63) rfl rfl Tryd.func19 (by kernel_rfl) rfl #[.string a0_1] rfl am ?_; (with_reducible refine (carillonref14_Word.calls kj2 a0_1 t373 _ A23.out).mono ?_); rintro e w' ⟨rfl, ⟨nd, rfl⟩⟩; refine ⟨_, rfl, ?_⟩) | ((with_reducible refine gate_callee (f := 19) rfl ?_); refine goesL_ (some 66) rfl rfl Tryd.func19 (by kernel_rfl) rfl #[.string a0_2] rfl am ?_; (with_reducible refine (carillonref14_Word.calls kj2 a0_2 t374 _ A24.out).mono ?_); rintro e w' ⟨rfl, ⟨nd, rfl⟩⟩; refine ⟨_, rfl, ?_⟩))
   (try simp only [Act.put, sl1, sl2, sl3])
   go_cut [92] (fun v92 wc => ∃ (kq : Nat) (x92_24 : Bool), v92 = .bool x92_24 ∧ Aside0 (carillonref14_Right.j1 kq t370 t371 x92_24 a0_0 a0_1 a0_2 a0_3 a0_4 a0_5 a0_6 a0_7 a0_8 = some r) ∧ Aside0 (kq ≤ kj2) ∧ Aside0 (wc.heap[en]? = some (.cells #[.int .i64 a0_0, .string a0_1, .string a0_2, .int .i64 a0_3, .string a0_4, .string a0_5, .int .i64 a0_6, .int .i64 a0_7, .int .i64 a0_8] 23 (0, 0))) ∧ Aside0 (Below w.heap.size w wc))
   case first =>
    have H := HC25.out
    clear HC25
    by_cases c27 : (t368 != t373) = true
    ·rw [if_pos c27] at H
     have ac : (t368 != t373) = true := c27
     (try (have i9 : decide (t368 = t373) = false := by simpa using c27))
     (try (have ja : (t368 == t373) = false := by simpa using c27))
     (try (have c27b3 : ¬ (t368 = t373) := by simpa using c27))
     clear c27
     (first | rw [ac] | (simp only [i64_w, i32_w]; rw [ac]) | skip)
     have H' := Aside0.mk H
     clear H
     go_wp2
     go_meet
     case rel => exact ⟨_, (true), (by first | rfl | (simp; done) | (simp [*]; done)), H', ⟨by have := HJ2.out; first | omega | exact Nat.le_refl _⟩, ⟨by (with_reducible repeat (first | refine blk_drewN ?_ _ | refine blk_drew ?_ | refine blk_alloc ?_ _)); exact aa.out⟩, ⟨bw⟩⟩
    rw [if_neg c27] at H
    have ac : (t368 != t373) = false := by simpa using c27
    (try (have i9 : decide (t368 = t373) = true := by simpa using c27))
    (try (have ja : (t368 == t373) = true := by simpa using c27))
    clear c27
    (first | rw [ac] | (simp only [i64_w, i32_w]; rw [ac]) | skip)
    by_cases c28 : t368 = true
    ·subst c28
     have H1 := H
     rw [if_pos rfl] at H1
     clear H
     have H := H1
     clear H1
     by_cases c29 : (t369 != t374) = true
     ·rw [if_pos c29] at H
      have jb : (t369 != t374) = true := c29
      (try (have jc : decide (t369 = t374) = false := by simpa using c29))
      (try (have jd : (t369 == t374) = false := by simpa using c29))
      (try (have c29b3 : ¬ (t369 = t374) := by simpa using c29))
      clear c29
      have H' := Aside0.mk H
      clear H
      go_wp2
      go_meet
      case rel => exact ⟨_, (true), (by first | rfl | (simp; done) | (simp [*]; done)), H', ⟨by have := HJ2.out; first | omega | exact Nat.le_refl _⟩, ⟨by (with_reducible repeat (first | refine blk_drewN ?_ _ | refine blk_drew ?_ | refine blk_alloc ?_ _)); exact aa.out⟩, ⟨bw⟩⟩
     rw [if_neg c29] at H
     have jb : (t369 != t374) = false := by simpa using c29
     (try (have jc : decide (t369 = t374) = true := by simpa using c29))
     (try (have jd : (t369 == t374) = true := by simpa using c29))
     clear c29
     by_cases c30 : t369 = true
     ·subst c30
      have H1 : (carillonref14_Right.j1 kj2 t370 t371 false a0_0 a0_1 a0_2 a0_3 a0_4 a0_5 a0_6 a0_7 a0_8) = some r := by rw [if_pos rfl] at H; exact H
      clear H
      have H := H1
      clear H1
      have H' := Aside0.mk H
      clear H
      go_wp2
      go_meet
      case rel => exact ⟨_, (false), (by first | rfl | (simp; done) | (simp [*]; done)), H', ⟨by have := HJ2.out; first | omega | exact Nat.le_refl _⟩, ⟨by (with_reducible repeat (first | refine blk_drewN ?_ _ | refine blk_drew ?_ | refine blk_alloc ?_ _)); exact aa.out⟩, ⟨bw⟩⟩
     replace c30 := Bool.eq_false_iff.mpr c30
     subst c30
     have H1 : (carillonref14_Right.j1 kj2 t370 t371 (a0_2.toList != ([] : List UInt8)) a0_0 a0_1 a0_2 a0_3 a0_4 a0_5 a0_6 a0_7 a0_8) = some r := by rw [if_neg (show ¬ (false = true) by decide)] at H; exact H
     clear H
     have H := H1
     clear H1
     have H' := Aside0.mk H
     clear H
     obtain ⟨ge, gf, gg, gh, gi, gj, gk, gl, gm, gn, gp, gq, gr, gs, gt, gu, gv, gw⟩ := bx9 aa.out
     go_wp2
     go_meet
     case rel => exact ⟨_, ((a0_2.toList != ([] : List UInt8))), (by first | rfl | (simp; done) | (simp [*]; done) | (generalize ByteArray.toList _ = l_; cases l_ <;> rfl)), H', ⟨by have := HJ2.out; first | omega | exact Nat.le_refl _⟩, ⟨by (with_reducible repeat (first | refine blk_drewN ?_ _ | refine blk_drew ?_ | refine blk_alloc ?_ _)); exact aa.out⟩, ⟨bw⟩⟩
    replace c28 := Bool.eq_false_iff.mpr c28
    subst c28
    have H1 : (if a0_1.toList = ([] : List UInt8) then (if (t369 != t374) = true then (carillonref14_Right.j1 kj2 t370 t371 true a0_0 a0_1 a0_2 a0_3 a0_4 a0_5 a0_6 a0_7 a0_8) else (if t369 = true then (carillonref14_Right.j1 kj2 t370 t371 false a0_0 a0_1 a0_2 a0_3 a0_4 a0_5 a0_6 a0_7 a0_8) else (carillonref14_Right.j1 kj2 t370 t371 (a0_2.toList != ([] : List UInt8)) a0_0 a0_1 a0_2 a0_3 a0_4 a0_5 a0_6 a0_7 a0_8))) else (carillonref14_Right.j1 kj2 t370 t371 true a0_0 a0_1 a0_2 a0_3 a0_4 a0_5 a0_6 a0_7 a0_8)) = some r := by rw [if_neg (show ¬ (false = true) by decide)] at H; exact H
    clear H
    have H := H1
    clear H1
    by_cases c32 : a0_1.toList = ([] : List UInt8); rotate_left
    ·rw [if_neg c32] at H
     have je : (a0_1.toList == ([] : List UInt8)) = false := beq_eq_false_iff_ne.mpr c32
     have jf : (a0_1.toList != ([] : List UInt8)) = true := bne_iff_ne.mpr c32
     have H' := Aside0.mk H
     clear H
     obtain ⟨iq, ir, it, iu, iv, iw, ix, iy, iz, i0, i1, i2, i3, i4, i5, i6, i7, i8⟩ := bx9 aa.out
     go_wp2
     go_meet
     case rel => exact ⟨_, (true), (by first | rfl | (simp; done) | (simp [*]; done)), H', ⟨by have := HJ2.out; first | omega | exact Nat.le_refl _⟩, ⟨by (with_reducible repeat (first | refine blk_drewN ?_ _ | refine blk_drew ?_ | refine blk_alloc ?_ _)); exact aa.out⟩, ⟨bw⟩⟩
    rw [if_pos c32] at H
    have je : (a0_1.toList == ([] : List UInt8)) = true := beq_iff_eq.mpr c32
    have jf : (a0_1.toList != ([] : List UInt8)) = false := bne_eq_false_iff_eq.mpr c32
    clear c32
    by_cases c33 : (t369 != t374) = true
    ·rw [if_pos c33] at H
     have jg : (t369 != t374) = true := c33
     (try (have jh : decide (t369 = t374) = false := by simpa using c33))
     (try (have ji : (t369 == t374) = false := by simpa using c33))
     (try (have c33b3 : ¬ (t369 = t374) := by simpa using c33))
     clear c33
     have H' := Aside0.mk H
     clear H
     obtain ⟨gx, gy, gz, g0, g2, g3, g4, g5, g6, g7, g8, g9, hc, he, hf, hh, hj, hl⟩ := bx9 aa.out
     go_wp2
     go_meet
     case rel => exact ⟨_, (true), (by first | rfl | (simp; done) | (simp [*]; done)), H', ⟨by have := HJ2.out; first | omega | exact Nat.le_refl _⟩, ⟨by (with_reducible repeat (first | refine blk_drewN ?_ _ | refine blk_drew ?_ | refine blk_alloc ?_ _)); exact aa.out⟩, ⟨bw⟩⟩
    rw [if_neg c33] at H
    have jg : (t369 != t374) = false := by simpa using c33
    (try (have jh : decide (t369 = t374) = true := by simpa using c33))
    (try (have ji : (t369 == t374) = true := by simpa using c33))
    clear c33
    by_cases c35 : t369 = true
    ·subst c35
     have H1 : (carillonref14_Right.j1 kj2 t370 t371 false a0_0 a0_1 a0_2 a0_3 a0_4 a0_5 a0_6 a0_7 a0_8) = some r := by rw [if_pos rfl] at H; exact H
     clear H
     have H := H1
     clear H1
     have H' := Aside0.mk H
     clear H
     obtain ⟨hm, hn, hp, hq, hs, ht, hu, hv, hw, hx, hy, hz, h0, h1, h2, h3, h4, h5⟩ := bx9 aa.out
     go_wp2
     go_meet
     case rel => exact ⟨_, (false), (by first | rfl | (simp; done) | (simp [*]; done)), H', ⟨by have := HJ2.out; first | omega | exact Nat.le_refl _⟩, ⟨by (with_reducible repeat (first | refine blk_drewN ?_ _ | refine blk_drew ?_ | refine blk_alloc ?_ _)); exact aa.out⟩, ⟨bw⟩⟩
    replace c35 := Bool.eq_false_iff.mpr c35
    subst c35
    have H1 : (carillonref14_Right.j1 kj2 t370 t371 (a0_2.toList != ([] : List UInt8)) a0_0 a0_1 a0_2 a0_3 a0_4 a0_5 a0_6 a0_7 a0_8) = some r := by rw [if_neg (show ¬ (false = true) by decide)] at H; exact H
    clear H
    have H := H1
    clear H1
    have H' := Aside0.mk H
    clear H
    obtain ⟨h6, h7, h8, h9, ia, ib, ic, id, ie, ig, ih, ii, ij, ik, il, im, io, ip⟩ := bx9 aa.out
    go_wp2
    go_meet
    case rel => exact ⟨_, ((a0_2.toList != ([] : List UInt8))), (by first | rfl | (simp; done) | (simp [*]; done) | (generalize ByteArray.toList _ = l_; cases l_ <;> rfl)), H', ⟨by have := HJ2.out; first | omega | exact Nat.le_refl _⟩, ⟨by (with_reducible repeat (first | refine blk_drewN ?_ _ | refine blk_drew ?_ | refine blk_alloc ?_ _)); exact aa.out⟩, ⟨bw⟩⟩
   case rest =>
    clear HC25
    try clear c1
    try clear c2
    try clear p2
    try clear c3
    try clear c4
    try clear c6
    try clear c7
    try clear eo
    try clear c9
    try clear jj
    try clear c11
    try clear fr
    try clear c13
    try clear fs
    try clear c15
    try clear ft
    try clear c17
    try clear fu
    try clear c19
    try clear fv
    try clear c22
    try clear c27
    try clear ac
    try clear i9
    try clear ja
    try clear c28
    try clear c29
    try clear jb
    try clear jc
    try clear jd
    try clear c30
    try clear c32
    try clear je
    try clear jf
    try clear c33
    try clear jg
    try clear jh
    try clear ji
    try clear c35
    try clear ae af ag ah ai aj ak al an az a9 ba bb bc bd be bf bg br bs bu bv bx b0 b1 b2 b3 cd ce cg ch ci cj ck cl cm cx cy cz c0 c5 c8 da db dc dm dn dp dq dr ds dt du dv d5 d6 d7 d8 d9 ea eb ec ed fw fx fy fz f0 f1 f2 f3 f4 ge gf gg gh gi gj gk gl gm gx gy gz g0 g2 g3 g4 g5 g6 hm hn hp hq hs ht hu hv hw h6 h7 h8 h9 ia ib ic id ie iq ir it iu iv iw ix iy iz ep eq es et eu ev ew ex ey e8 e9 fa fb fc fd fe ff fg
    try clear ao ap aq ar au av aw ax ay bh bi bj bl bm bn bo bp bq b4 b5 b6 b7 b8 b9 ca cb cc cn co cp cq cr ct cu cv cw dd de df dg dh di dj dk dl dw dx dy dz d0 d1 d2 d3 d4 ee ef eg eh ei ej ek el em f5 f6 f7 f8 f9 ga gb gc gd gn gp gq gr gs gt gu gv gw g7 g8 g9 hc he hf hh hj hl hx hy hz h0 h1 h2 h3 h4 h5 ig ih ii ij ik il im io ip i0 i1 i2 i3 i4 i5 i6 i7 i8 ez e0 e1 e2 e3 e4 e5 e6 e7 fh fi fj fk fl fm fn fo fp
    try clear p2
    obtain ⟨kq, x92_24, rfl, HA, fq, aa, HB⟩ := hcut
    cases kq with
    | zero => exact absurd HA.out (by simp [carillonref14_Right.j1])
    | succ ab =>
     have H := HA.out
     clear HA
     simp only [carillonref14_Right.j1] at H
     by_cases c39 : x92_24 = true
     ·subst c39
      have H1 : (some false) = some r := by rw [if_pos rfl] at H; exact H
      clear H
      have H := H1
      clear H1
      obtain rfl := Option.some.inj H
      go_wp2
      go_ret
      exact ⟨er, bw⟩
     replace c39 := Bool.eq_false_iff.mpr c39
     subst c39
     have H1 : (if t370 = true then (if (a0_4.size : Int) > 100 then (carillonref14_Right.j2 ab t371 true a0_0 a0_1 a0_2 a0_3 a0_4 a0_5 a0_6 a0_7 a0_8) else (carillonref14_Right.j2 ab t371 (decide ((a0_5.size : Int) > 1000)) a0_0 a0_1 a0_2 a0_3 a0_4 a0_5 a0_6 a0_7 a0_8)) else (if a0_3 = 0 then (if a0_4.toList = ([] : List UInt8) then (if a0_5.toList = ([] : List UInt8) then (if (a0_4.size : Int) > 100 then (carillonref14_Right.j2 ab t371 true a0_0 a0_1 a0_2 a0_3 a0_4 a0_5 a0_6 a0_7 a0_8) else (carillonref14_Right.j2 ab t371 (decide ((a0_5.size : Int) > 1000)) a0_0 a0_1 a0_2 a0_3 a0_4 a0_5 a0_6 a0_7 a0_8)) else (carillonref14_Right.j2 ab t371 true a0_0 a0_1 a0_2 a0_3 a0_4 a0_5 a0_6 a0_7 a0_8)) else (carillonref14_Right.j2 ab t371 true a0_0 a0_1 a0_2 a0_3 a0_4 a0_5 a0_6 a0_7 a0_8)) else (carillonref14_Right.j2 ab t371 true a0_0 a0_1 a0_2 a0_3 a0_4 a0_5 a0_6 a0_7 a0_8))) = some r := by rw [if_neg (show ¬ (false = true) by decide)] at H; exact H
     clear H
     have H := H1
     clear H1
     have HC40 := Aside0.mk H
     clear H
     go_upto_region 8 with (fail)
     go_cut [121] (fun v121 wc => ∃ (kq : Nat) (x121_39 : Bool), v121 = .bool x121_39 ∧ Aside0 (carillonref14_Right.j2 kq t371 x121_39 a0_0 a0_1 a0_2 a0_3 a0_4 a0_5 a0_6 a0_7 a0_8 = some r) ∧ Aside0 (kq ≤ ab) ∧ Aside0 (wc.heap[en]? = some (.cells #[.int .i64 a0_0, .string a0_1, .string a0_2, .int .i64 a0_3, .string a0_4, .string a0_5, .int .i64 a0_6, .int .i64 a0_7, .int .i64 a0_8] 23 (0, 0))) ∧ Aside0 (Below w.heap.size w wc))
     case first =>
      have H := HC40.out
      clear HC40
      by_cases c41 : t370 = true
      ·subst c41
       have H1 := H
       rw [if_pos rfl] at H1
       clear H
       have H := H1
       clear H1
       by_cases c42 : (a0_4.size : Int) > 100; rotate_left
       ·rw [if_neg c42] at H
        have ad : decide (100 < (a0_4.size : Int)) = false := decide_eq_false c42
        have jk : decide (100 < a0_4.size) = false := decide_eq_false (by omega)
        clear c42
        (first | rw [ad] | (simp only [i64_w, i32_w]; rw [ad]) | skip)
        have H' := Aside0.mk H
        clear H
        obtain ⟨hcz44_0, hcz44_1, hcz44_2, hcz44_3, hcz44_4, hcz44_5, hcz44_6, hcz44_7, hcz44_8, hfz44_0, hfz44_1, hfz44_2, hfz44_3, hfz44_4, hfz44_5, hfz44_6, hfz44_7, hfz44_8⟩ := bx9 aa.out
        go_wp2
        go_meet
        case rel => exact ⟨_, (decide ((a0_5.size : Int) > 1000)), (by first | rfl | (simp; done) | (simp [*]; done)), H', ⟨by have := HJ2.out; have := fq.out; first | omega | exact Nat.le_refl _⟩, ⟨by (with_reducible repeat (first | refine blk_drewN ?_ _ | refine blk_drew ?_ | refine blk_alloc ?_ _)); exact aa.out⟩, ⟨bw⟩⟩
       rw [if_pos c42] at H
       have ad : decide (100 < (a0_4.size : Int)) = true := decide_eq_true c42
       have jk : decide (100 < a0_4.size) = true := decide_eq_true (by omega)
       clear c42
       (first | rw [ad] | (simp only [i64_w, i32_w]; rw [ad]) | skip)
       have H' := Aside0.mk H
       clear H
       obtain ⟨hcz43_0, hcz43_1, hcz43_2, hcz43_3, hcz43_4, hcz43_5, hcz43_6, hcz43_7, hcz43_8, hfz43_0, hfz43_1, hfz43_2, hfz43_3, hfz43_4, hfz43_5, hfz43_6, hfz43_7, hfz43_8⟩ := bx9 aa.out
       go_wp2
       go_meet
       case rel => exact ⟨_, (true), (by first | rfl | (simp; done) | (simp [*]; done)), H', ⟨by have := HJ2.out; have := fq.out; first | omega | exact Nat.le_refl _⟩, ⟨by (with_reducible repeat (first | refine blk_drewN ?_ _ | refine blk_drew ?_ | refine blk_alloc ?_ _)); exact aa.out⟩, ⟨bw⟩⟩
      replace c41 := Bool.eq_false_iff.mpr c41
      subst c41
      have H1 : (if a0_3 = 0 then (if a0_4.toList = ([] : List UInt8) then (if a0_5.toList = ([] : List UInt8) then (if (a0_4.size : Int) > 100 then (carillonref14_Right.j2 ab t371 true a0_0 a0_1 a0_2 a0_3 a0_4 a0_5 a0_6 a0_7 a0_8) else (carillonref14_Right.j2 ab t371 (decide ((a0_5.size : Int) > 1000)) a0_0 a0_1 a0_2 a0_3 a0_4 a0_5 a0_6 a0_7 a0_8)) else (carillonref14_Right.j2 ab t371 true a0_0 a0_1 a0_2 a0_3 a0_4 a0_5 a0_6 a0_7 a0_8)) else (carillonref14_Right.j2 ab t371 true a0_0 a0_1 a0_2 a0_3 a0_4 a0_5 a0_6 a0_7 a0_8)) else (carillonref14_Right.j2 ab t371 true a0_0 a0_1 a0_2 a0_3 a0_4 a0_5 a0_6 a0_7 a0_8)) = some r := by rw [if_neg (show ¬ (false = true) by decide)] at H; exact H
      clear H
      have H := H1
      clear H1
      by_cases c45 : a0_3 = 0; rotate_left
      ·rw [if_neg c45] at H
       have jl : (a0_3 == 0) = false := beq_eq_false_iff_ne.mpr c45
       have jm : (a0_3 != 0) = true := bne_iff_ne.mpr c45
       have H' := Aside0.mk H
       clear H
       obtain ⟨hcz53_0, hcz53_1, hcz53_2, hcz53_3, hcz53_4, hcz53_5, hcz53_6, hcz53_7, hcz53_8, hfz53_0, hfz53_1, hfz53_2, hfz53_3, hfz53_4, hfz53_5, hfz53_6, hfz53_7, hfz53_8⟩ := bx9 aa.out
       go_wp2
       go_meet
       case rel => exact ⟨_, (true), (by first | rfl | (simp; done) | (simp [*]; done)), H', ⟨by have := HJ2.out; have := fq.out; first | omega | exact Nat.le_refl _⟩, ⟨by (with_reducible repeat (first | refine blk_drewN ?_ _ | refine blk_drew ?_ | refine blk_alloc ?_ _)); exact aa.out⟩, ⟨bw⟩⟩
      rw [if_pos c45] at H
      have jl : (a0_3 == 0) = true := beq_iff_eq.mpr c45
      have jm : (a0_3 != 0) = false := bne_eq_false_iff_eq.mpr c45
      clear c45
      by_cases c46 : a0_4.toList = ([] : List UInt8); rotate_left
      ·rw [if_neg c46] at H
       have jn : (a0_4.toList == ([] : List UInt8)) = false := beq_eq_false_iff_ne.mpr c46
       have jo : (a0_4.toList != ([] : List UInt8)) = true := bne_iff_ne.mpr c46
       have H' := Aside0.mk H
       clear H
       obtain ⟨hcz52_0, hcz52_1, hcz52_2, hcz52_3, hcz52_4, hcz52_5, hcz52_6, hcz52_7, hcz52_8, hfz52_0, hfz52_1, hfz52_2, hfz52_3, hfz52_4, hfz52_5, hfz52_6, hfz52_7, hfz52_8⟩ := bx9 aa.out
       go_wp2
       go_meet
       case rel => exact ⟨_, (true), (by first | rfl | (simp; done) | (simp [*]; done)), H', ⟨by have := HJ2.out; have := fq.out; first | omega | exact Nat.le_refl _⟩, ⟨by (with_reducible repeat (first | refine blk_drewN ?_ _ | refine blk_drew ?_ | refine blk_alloc ?_ _)); exact aa.out⟩, ⟨bw⟩⟩
      rw [if_pos c46] at H
      have jn : (a0_4.toList == ([] : List UInt8)) = true := beq_iff_eq.mpr c46
      have jo : (a0_4.toList != ([] : List UInt8)) = false := bne_eq_false_iff_eq.mpr c46
      clear c46
      by_cases c47 : a0_5.toList = ([] : List UInt8); rotate_left
      ·rw [if_neg c47] at H
       have jp : (a0_5.toList == ([] : List UInt8)) = false := beq_eq_false_iff_ne.mpr c47
       have jq : (a0_5.toList != ([] : List UInt8)) = true := bne_iff_ne.mpr c47
       have H' := Aside0.mk H
       clear H
       obtain ⟨hcz51_0, hcz51_1, hcz51_2, hcz51_3, hcz51_4, hcz51_5, hcz51_6, hcz51_7, hcz51_8, hfz51_0, hfz51_1, hfz51_2, hfz51_3, hfz51_4, hfz51_5, hfz51_6, hfz51_7, hfz51_8⟩ := bx9 aa.out
       go_wp2
       go_meet
       case rel => exact ⟨_, (true), (by first | rfl | (simp; done) | (simp [*]; done)), H', ⟨by have := HJ2.out; have := fq.out; first | omega | exact Nat.le_refl _⟩, ⟨by (with_reducible repeat (first | refine blk_drewN ?_ _ | refine blk_drew ?_ | refine blk_alloc ?_ _)); exact aa.out⟩, ⟨bw⟩⟩
      rw [if_pos c47] at H
      have jp : (a0_5.toList == ([] : List UInt8)) = true := beq_iff_eq.mpr c47
      have jq : (a0_5.toList != ([] : List UInt8)) = false := bne_eq_false_iff_eq.mpr c47
      clear c47
      by_cases c48 : (a0_4.size : Int) > 100; rotate_left
      ·rw [if_neg c48] at H
       have jr : decide (100 < (a0_4.size : Int)) = false := decide_eq_false c48
       have js : decide (100 < a0_4.size) = false := decide_eq_false (by omega)
       clear c48
       have H' := Aside0.mk H
       clear H
       obtain ⟨hcz50_0, hcz50_1, hcz50_2, hcz50_3, hcz50_4, hcz50_5, hcz50_6, hcz50_7, hcz50_8, hfz50_0, hfz50_1, hfz50_2, hfz50_3, hfz50_4, hfz50_5, hfz50_6, hfz50_7, hfz50_8⟩ := bx9 aa.out
       go_wp2
       go_meet
       case rel => exact ⟨_, (decide ((a0_5.size : Int) > 1000)), (by first | rfl | (simp; done) | (simp [*]; done)), H', ⟨by have := HJ2.out; have := fq.out; first | omega | exact Nat.le_refl _⟩, ⟨by (with_reducible repeat (first | refine blk_drewN ?_ _ | refine blk_drew ?_ | refine blk_alloc ?_ _)); exact aa.out⟩, ⟨bw⟩⟩
      rw [if_pos c48] at H
      have jr : decide (100 < (a0_4.size : Int)) = true := decide_eq_true c48
      have js : decide (100 < a0_4.size) = true := decide_eq_true (by omega)
      clear c48
      have H' := Aside0.mk H
      clear H
      obtain ⟨hcz49_0, hcz49_1, hcz49_2, hcz49_3, hcz49_4, hcz49_5, hcz49_6, hcz49_7, hcz49_8, hfz49_0, hfz49_1, hfz49_2, hfz49_3, hfz49_4, hfz49_5, hfz49_6, hfz49_7, hfz49_8⟩ := bx9 aa.out
      go_wp2
      go_meet
      case rel => exact ⟨_, (true), (by first | rfl | (simp; done) | (simp [*]; done)), H', ⟨by have := HJ2.out; have := fq.out; first | omega | exact Nat.le_refl _⟩, ⟨by (with_reducible repeat (first | refine blk_drewN ?_ _ | refine blk_drew ?_ | refine blk_alloc ?_ _)); exact aa.out⟩, ⟨bw⟩⟩
     case rest =>
      clear HC40
      try clear c1
      try clear c2
      try clear p2
      try clear c3
      try clear c4
      try clear c6
      try clear c7
      try clear eo
      try clear c9
      try clear jj
      try clear c11
      try clear fr
      try clear c13
      try clear fs
      try clear c15
      try clear ft
      try clear c17
      try clear fu
      try clear c19
      try clear fv
      try clear c22
      try clear c27
      try clear ac
      try clear i9
      try clear ja
      try clear c28
      try clear c29
      try clear jb
      try clear jc
      try clear jd
      try clear c30
      try clear c32
      try clear je
      try clear jf
      try clear c33
      try clear jg
      try clear jh
      try clear ji
      try clear c35
      try clear c39
      try clear c41
      try clear c42
      try clear ad
      try clear jk
      try clear c45
      try clear jl
      try clear jm
      try clear c46
      try clear jn
      try clear jo
      try clear c47
      try clear jp
      try clear jq
      try clear c48
      try clear jr
      try clear js
      try clear ae af ag ah ai aj ak al an az a9 ba bb bc bd be bf bg br bs bu bv bx b0 b1 b2 b3 cd ce cg ch ci cj ck cl cm cx cy cz c0 c5 c8 da db dc dm dn dp dq dr ds dt du dv d5 d6 d7 d8 d9 ea eb ec ed fw fx fy fz f0 f1 f2 f3 f4 ge gf gg gh gi gj gk gl gm gx gy gz g0 g2 g3 g4 g5 g6 hm hn hp hq hs ht hu hv hw h6 h7 h8 h9 ia ib ic id ie iq ir it iu iv iw ix iy iz hcz43_0 hcz43_1 hcz43_2 hcz43_3 hcz43_4 hcz43_5 hcz43_6 hcz43_7 hcz43_8 hcz44_0 hcz44_1 hcz44_2 hcz44_3 hcz44_4 hcz44_5 hcz44_6 hcz44_7 hcz44_8 hcz49_0 hcz49_1 hcz49_2 hcz49_3 hcz49_4 hcz49_5 hcz49_6 hcz49_7 hcz49_8 hcz50_0 hcz50_1 hcz50_2 hcz50_3 hcz50_4 hcz50_5 hcz50_6 hcz50_7 hcz50_8 hcz51_0 hcz51_1 hcz51_2 hcz51_3 hcz51_4 hcz51_5 hcz51_6 hcz51_7 hcz51_8 hcz52_0 hcz52_1 hcz52_2 hcz52_3 hcz52_4 hcz52_5 hcz52_6 hcz52_7 hcz52_8 hcz53_0 hcz53_1 hcz53_2 hcz53_3 hcz53_4 hcz53_5 hcz53_6 hcz53_7 hcz53_8 ep eq es et eu ev ew ex ey e8 e9 fa fb fc fd fe ff fg
      try clear ao ap aq ar au av aw ax ay bh bi bj bl bm bn bo bp bq b4 b5 b6 b7 b8 b9 ca cb cc cn co cp cq cr ct cu cv cw dd de df dg dh di dj dk dl dw dx dy dz d0 d1 d2 d3 d4 ee ef eg eh ei ej ek el em f5 f6 f7 f8 f9 ga gb gc gd gn gp gq gr gs gt gu gv gw g7 g8 g9 hc he hf hh hj hl hx hy hz h0 h1 h2 h3 h4 h5 ig ih ii ij ik il im io ip i0 i1 i2 i3 i4 i5 i6 i7 i8 hfz43_0 hfz43_1 hfz43_2 hfz43_3 hfz43_4 hfz43_5 hfz43_6 hfz43_7 hfz43_8 hfz44_0 hfz44_1 hfz44_2 hfz44_3 hfz44_4 hfz44_5 hfz44_6 hfz44_7 hfz44_8 hfz49_0 hfz49_1 hfz49_2 hfz49_3 hfz49_4 hfz49_5 hfz49_6 hfz49_7 hfz49_8 hfz50_0 hfz50_1 hfz50_2 hfz50_3 hfz50_4 hfz50_5 hfz50_6 hfz50_7 hfz50_8 hfz51_0 hfz51_1 hfz51_2 hfz51_3 hfz51_4 hfz51_5 hfz51_6 hfz51_7 hfz51_8 hfz52_0 hfz52_1 hfz52_2 hfz52_3 hfz52_4 hfz52_5 hfz52_6 hfz52_7 hfz52_8 hfz53_0 hfz53_1 hfz53_2 hfz53_3 hfz53_4 hfz53_5 hfz53_6 hfz53_7 hfz53_8 ez e0 e1 e2 e3 e4 e5 e6 e7 fh fi fj fk fl fm fn fo fp
      try clear p2
      obtain ⟨kq, x121_39, rfl, HA, HJ39, aa, HB⟩ := hcut
      cases kq with
      | zero => exact absurd HA.out (by simp [carillonref14_Right.j2])
      | succ kj39 =>
       have H := HA.out
       clear HA
       simp only [carillonref14_Right.j2] at H
       by_cases c54 : x121_39 = true
       ·subst c54
        have H1 : (some false) = some r := by rw [if_pos rfl] at H; exact H
        clear H
        have H := H1
        clear H1
        obtain rfl := Option.some.inj H
        go_wp2
        go_ret
        exact ⟨er, bw⟩
       replace c54 := Bool.eq_false_iff.mpr c54
       subst c54
       have H1 : (if t371 = true then (if a0_0 = 5 then (if a0_6 ≥ 1 then (some (decide (a0_6 ≤ 50))) else (some false)) else (if a0_0 = 10 then (if a0_6 ≥ 0 then (some (decide (a0_6 < 7))) else (some false)) else (if a0_0 = 11 then (if a0_6 ≥ 0 then (some (decide (a0_6 < 7))) else (some false)) else (if a0_0 = 3 then (some true) else (some (decide (a0_6 ≥ 0))))))) else (some (a0_6 == 0))) = some r := by rw [if_neg (show ¬ (false = true) by decide)] at H; exact H
       clear H
       have H := H1
       clear H1
       by_cases c55 : t371 = true; rotate_left
       ·replace c55 := Bool.eq_false_iff.mpr c55
        subst c55
        have H1 : (some (a0_6 == 0)) = some r := by rw [if_neg (show ¬ (false = true) by decide)] at H; exact H
        clear H
        have H := H1
        clear H1
        obtain rfl := Option.some.inj H
        obtain ⟨hcz71_0, hcz71_1, hcz71_2, hcz71_3, hcz71_4, hcz71_5, hcz71_6, hcz71_7, hcz71_8, hfz71_0, hfz71_1, hfz71_2, hfz71_3, hfz71_4, hfz71_5, hfz71_6, hfz71_7, hfz71_8⟩ := bx9 aa.out
        go_wp2
        go_ret
        exact ⟨er, bw⟩
       subst c55
       have H1 := H
       rw [if_pos rfl] at H1
       clear H
       have H := H1
       clear H1
       by_cases c56 : a0_0 = 5
       ·rw [if_pos c56] at H
        have c56b0 : (a0_0 == 5) = true := beq_iff_eq.mpr c56
        have c56b1 : (a0_0 != 5) = false := bne_eq_false_iff_eq.mpr c56
        clear c56
        by_cases c57 : a0_6 ≥ 1; rotate_left
        ·rw [if_neg c57] at H
         have c57b0 : decide (1 ≤ a0_6) = false := decide_eq_false c57
         clear c57
         obtain rfl := Option.some.inj H
         obtain ⟨hcz59_0, hcz59_1, hcz59_2, hcz59_3, hcz59_4, hcz59_5, hcz59_6, hcz59_7, hcz59_8, hfz59_0, hfz59_1, hfz59_2, hfz59_3, hfz59_4, hfz59_5, hfz59_6, hfz59_7, hfz59_8⟩ := bx9 aa.out
         go_wp2
         go_ret
         exact ⟨er, bw⟩
        rw [if_pos c57] at H
        have c57b0 : decide (1 ≤ a0_6) = true := decide_eq_true c57
        clear c57
        obtain rfl := Option.some.inj H
        obtain ⟨hcz58_0, hcz58_1, hcz58_2, hcz58_3, hcz58_4, hcz58_5, hcz58_6, hcz58_7, hcz58_8, hfz58_0, hfz58_1, hfz58_2, hfz58_3, hfz58_4, hfz58_5, hfz58_6, hfz58_7, hfz58_8⟩ := bx9 aa.out
        go_wp2
        go_ret
        exact ⟨er, bw⟩
       rw [if_neg c56] at H
       have c56b0 : (a0_0 == 5) = false := beq_eq_false_iff_ne.mpr c56
       have c56b1 : (a0_0 != 5) = true := bne_iff_ne.mpr c56
       by_cases c60 : a0_0 = 10
       ·rw [if_pos c60] at H
        have c60b0 : (a0_0 == 10) = true := beq_iff_eq.mpr c60
        have c60b1 : (a0_0 != 10) = false := bne_eq_false_iff_eq.mpr c60
        clear c60
        by_cases c61 : a0_6 ≥ 0; rotate_left
        ·rw [if_neg c61] at H
         have c61b0 : decide (0 ≤ a0_6) = false := decide_eq_false c61
         clear c61
         obtain rfl := Option.some.inj H
         obtain ⟨hcz63_0, hcz63_1, hcz63_2, hcz63_3, hcz63_4, hcz63_5, hcz63_6, hcz63_7, hcz63_8, hfz63_0, hfz63_1, hfz63_2, hfz63_3, hfz63_4, hfz63_5, hfz63_6, hfz63_7, hfz63_8⟩ := bx9 aa.out
         go_wp2
         go_ret
         exact ⟨er, bw⟩
        rw [if_pos c61] at H
        have c61b0 : decide (0 ≤ a0_6) = true := decide_eq_true c61
        clear c61
        obtain rfl := Option.some.inj H
        obtain ⟨hcz62_0, hcz62_1, hcz62_2, hcz62_3, hcz62_4, hcz62_5, hcz62_6, hcz62_7, hcz62_8, hfz62_0, hfz62_1, hfz62_2, hfz62_3, hfz62_4, hfz62_5, hfz62_6, hfz62_7, hfz62_8⟩ := bx9 aa.out
        go_wp2
        go_ret
        exact ⟨er, bw⟩
       rw [if_neg c60] at H
       have c60b0 : (a0_0 == 10) = false := beq_eq_false_iff_ne.mpr c60
       have c60b1 : (a0_0 != 10) = true := bne_iff_ne.mpr c60
       by_cases c64 : a0_0 = 11; rotate_left
       ·rw [if_neg c64] at H
        have c64b0 : (a0_0 == 11) = false := beq_eq_false_iff_ne.mpr c64
        have c64b1 : (a0_0 != 11) = true := bne_iff_ne.mpr c64
        by_cases c68 : a0_0 = 3; rotate_left
        ·rw [if_neg c68] at H
         have c68b0 : (a0_0 == 3) = false := beq_eq_false_iff_ne.mpr c68
         have c68b1 : (a0_0 != 3) = true := bne_iff_ne.mpr c68
         obtain rfl := Option.some.inj H
         obtain ⟨hcz70_0, hcz70_1, hcz70_2, hcz70_3, hcz70_4, hcz70_5, hcz70_6, hcz70_7, hcz70_8, hfz70_0, hfz70_1, hfz70_2, hfz70_3, hfz70_4, hfz70_5, hfz70_6, hfz70_7, hfz70_8⟩ := bx9 aa.out
         go_wp2
         go_ret
         exact ⟨er, bw⟩
        rw [if_pos c68] at H
        have c68b0 : (a0_0 == 3) = true := beq_iff_eq.mpr c68
        have c68b1 : (a0_0 != 3) = false := bne_eq_false_iff_eq.mpr c68
        clear c68
        obtain rfl := Option.some.inj H
        obtain ⟨hcz69_0, hcz69_1, hcz69_2, hcz69_3, hcz69_4, hcz69_5, hcz69_6, hcz69_7, hcz69_8, hfz69_0, hfz69_1, hfz69_2, hfz69_3, hfz69_4, hfz69_5, hfz69_6, hfz69_7, hfz69_8⟩ := bx9 aa.out
        go_wp2
        go_ret
        exact ⟨er, bw⟩
       rw [if_pos c64] at H
       have c64b0 : (a0_0 == 11) = true := beq_iff_eq.mpr c64
       have c64b1 : (a0_0 != 11) = false := bne_eq_false_iff_eq.mpr c64
       clear c64
       by_cases c65 : a0_6 ≥ 0; rotate_left
       ·rw [if_neg c65] at H
        have c65b0 : decide (0 ≤ a0_6) = false := decide_eq_false c65
        clear c65
        obtain rfl := Option.some.inj H
        obtain ⟨hcz67_0, hcz67_1, hcz67_2, hcz67_3, hcz67_4, hcz67_5, hcz67_6, hcz67_7, hcz67_8, hfz67_0, hfz67_1, hfz67_2, hfz67_3, hfz67_4, hfz67_5, hfz67_6, hfz67_7, hfz67_8⟩ := bx9 aa.out
        go_wp2
        go_ret
        exact ⟨er, bw⟩
       rw [if_pos c65] at H
       have c65b0 : decide (0 ≤ a0_6) = true := decide_eq_true c65
       clear c65
       obtain rfl := Option.some.inj H
       obtain ⟨hcz66_0, hcz66_1, hcz66_2, hcz66_3, hcz66_4, hcz66_5, hcz66_6, hcz66_7, hcz66_8, hfz66_0, hfz66_1, hfz66_2, hfz66_3, hfz66_4, hfz66_5, hfz66_6, hfz66_7, hfz66_8⟩ := bx9 aa.out
       go_wp2
       go_ret
       exact ⟨er, bw⟩

end Go.Proofs.YtpgiagdpepkooaaDoor.P
