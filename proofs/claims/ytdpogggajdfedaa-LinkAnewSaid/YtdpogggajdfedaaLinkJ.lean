import Derived.Test.YtdpogggajdfedaaLinkI
import Derived.Outline
import Derived.Laws.BitsAllLaws
import Derived.WalkSpells
import Derived.StillTailTactics
namespace Go.Proofs.Ytdpogggajdfedaa.P
open Go.RowKit Go.Proofs.YtdpogggajdfedaaW.PrintWords Go.Proofs.YtdpogggajdfedaaW.PrintLast Go.Proofs.YtdpogggajdfedaaW.PrintMore
attribute [local go_sem] max2_int min2_int max_two min_two max_three min_three max_four min_four
set_option linter.unusedVariables false
set_option linter.unusedSimpArgs false
attribute [local go_sem high] eqA46
def tuR.T22 : Bool × List (List Nat × List Nat) := (true, [([], []), ([0], [0]), ([1], [1]), ([2], [2]), ([], []), ([3, 4], [3, 4]), ([5], [5]), ([], []), ([7], [7]), ([6, 8], [6, 8]), ([9], [9])])
def tuR.B22 : List Nat := [0, 1, 3, 7, 0, 31, 63, 0, 128, 511, 1023]
theorem tuR.tab22 : rtab .any (opsOf Try.f11 22) = tuR.T22 := by kernel_rfl
theorem tuR.bits22 : waitsOk tuR.T22.2 tuR.B22 = true := by kernel_rfl
def tuR.T23 : Bool × List (List Nat × List Nat) := (true, [([], []), ([0], [0]), ([1], [1]), ([2], [2]), ([], []), ([], []), ([5], [5]), ([6], [6]), ([7], [7]), ([], []), ([8, 9], [8, 9]), ([10], [10]), ([], []), ([12], [12]), ([13], [13]), ([11, 14], [11, 14]), ([3, 4, 0, 1, 2, 3, 4, 5, 6, 7, 8, 9, 10, 11, 12, 13, 14, 15], [3, 4]), ([16, 15, 15, 0, 1, 2, 3, 4, 5, 6, 7, 8, 9, 10, 11, 12, 13, 14, 15], [15, 16])])
def tuR.B23 : List Nat := [0, 1, 3, 7, 0, 0, 32, 96, 224, 0, 992, 2016, 0, 4096, 12288, 32736, 65535, 131071]
theorem tuR.tab23 : rtab .any (opsOf Try.f11 23) = tuR.T23 := by kernel_rfl
theorem tuR.bits23 : waitsOk tuR.T23.2 tuR.B23 = true := by kernel_rfl
def tuR.T25 : Bool × List (List Nat × List Nat) := (true, [([], []), ([0], [0]), ([1], [1]), ([2], [2]), ([], []), ([], []), ([5], [5]), ([6], [6]), ([7], [7]), ([], []), ([8, 9], [8, 9]), ([10], [10]), ([], []), ([12], [12]), ([13], [13]), ([14], [14]), ([], []), ([15, 16], [15, 16]), ([17], [17]), ([18], [18]), ([11, 19, 19], [11, 19]), ([3, 4, 0, 1, 2, 3, 4, 5, 6, 7, 8, 9, 10, 11, 12, 13, 14, 15, 16, 17, 18, 19, 20], [3, 4]), ([21, 20, 20, 0, 1, 2, 3, 4, 5, 6, 7, 8, 9, 10, 11, 12, 13, 14, 15, 16, 17, 18, 19, 20], [20, 21])])
def tuR.B25 : List Nat := [0, 1, 3, 7, 0, 0, 32, 96, 224, 0, 992, 2016, 0, 4096, 12288, 28672, 0, 126976, 258048, 520192, 1048544, 2097151, 4194303]
theorem tuR.tab25 : rtab .any (opsOf Try.f11 25) = tuR.T25 := by kernel_rfl
theorem tuR.bits25 : waitsOk tuR.T25.2 tuR.B25 = true := by kernel_rfl
def tuR.T9 : Bool × List (List Nat × List Nat) := (true, [([], []), ([0], [0]), ([1], [1]), ([2], [2]), ([], []), ([], []), ([5], [5]), ([6], [6]), ([7], [7]), ([], []), ([8, 9], [8, 9]), ([10], [10]), ([], []), ([11, 12], [11, 12]), ([13], [13]), ([], []), ([15], [15]), ([16], [16]), ([17], [17]), ([], []), ([18, 19], [18, 19]), ([20], [20]), ([], []), ([22], [22]), ([21, 23], [21, 23]), ([14, 24, 14], [14, 24]), ([3, 4, 0, 1, 2, 3, 4, 5, 6, 7, 8, 9, 10, 11, 12, 13, 14, 15, 16, 17, 18, 19, 20, 21, 22, 23, 24, 25], [3, 4]), ([26, 25, 25, 0, 1, 2, 3, 4, 5, 6, 7, 8, 9, 10, 11, 12, 13, 14, 15, 16, 17, 18, 19, 20, 21, 22, 23, 24, 25], [25, 26])])
def tuR.B9 : List Nat := [0, 1, 3, 7, 0, 0, 32, 96, 224, 0, 992, 2016, 0, 8160, 16352, 0, 32768, 98304, 229376, 0, 1015808, 2064384, 0, 4194304, 16744448, 33554400, 67108863, 134217727]
theorem tuR.tab9 : rtab .any (opsOf Try.f11 9) = tuR.T9 := by kernel_rfl
theorem tuR.bits9 : waitsOk tuR.T9.2 tuR.B9 = true := by kernel_rfl
def tuR.T12 : Bool × List (List Nat × List Nat) := (true, [([], []), ([0], [0]), ([1], [1]), ([2], [2]), ([], []), ([3, 4], [3, 4]), ([5], [5]), ([], []), ([6, 7], [6, 7]), ([8], [8]), ([9], [9]), ([9], [9]), ([10, 8, 0, 1, 2, 3, 4, 5, 6, 7, 8, 9, 10], [10]), ([11, 12, 0, 1, 2, 3, 4, 5, 6, 7, 8, 9, 10, 11, 12], [11])])
def tuR.B12 : List Nat := [0, 1, 3, 7, 0, 31, 63, 0, 255, 511, 1023, 1023, 2047, 8191]
theorem tuR.tab12 : rtab .any (opsOf Try.f11 12) = tuR.T12 := by kernel_rfl
theorem tuR.bits12 : waitsOk tuR.T12.2 tuR.B12 = true := by kernel_rfl
def tuR.T13 : Bool × List (List Nat × List Nat) := (true, [([], []), ([0], [0]), ([1], [1]), ([2], [2]), ([], []), ([], []), ([5], [5]), ([6], [6]), ([7], [7]), ([], []), ([8, 9], [8, 9]), ([10], [10]), ([], []), ([11, 12], [11, 12]), ([3, 4, 0, 1, 2, 3, 4, 5, 6, 7, 8, 9, 10, 11, 12, 13], [3, 4]), ([14, 13, 13, 0, 1, 2, 3, 4, 5, 6, 7, 8, 9, 10, 11, 12, 13], [13, 14])])
def tuR.B13 : List Nat := [0, 1, 3, 7, 0, 0, 32, 96, 224, 0, 992, 2016, 0, 8160, 16383, 32767]
theorem tuR.tab13 : rtab .any (opsOf Try.f11 13) = tuR.T13 := by kernel_rfl
theorem tuR.bits13 : waitsOk tuR.T13.2 tuR.B13 = true := by kernel_rfl
abbrev TurnT := S28
namespace PaM
def frame (x : PaM) (w i : Nat) : FrT := (x.way w).getD i z46
def gone (x : PaM) (w k i : Nat) : PaM := if k = 5 then x else { x with way := upd x.way w ((x.way w).take i ++ (x.way w).drop (i + 1)) }
def come (x : PaM) (w k i : Nat) : PaM :=
  if k = 4 then x.gone w k i else { x.gone w k i with l := upd x.l w ((x.l w).take (x.frame w i)).1, told := upd x.told w (x.told w ++ ((x.l w).take (x.frame w i)).2.1) }
def sendM (x : PaM) (w : Nat) (s : ByteArray) : PaM := { x with l := upd x.l w ((x.l w).send s).1, sent := if ((x.l w).send s).2 = 0 then upd x.sent w (x.sent w ++ [s]) else x.sent }
def outM (x : PaM) (w : Nat) : PaM := { x with l := upd x.l w (x.l w).outs.1, way := upd x.way (1 - w) (x.way (1 - w) ++ (x.l w).outs.2) }
def tickM (x : PaM) (w : Nat) : PaM := { x with l := upd x.l w (x.l w).tick }
/-- What a turn does. -/
def turn (x : PaM) (t : TurnT) : PaM :=
  if pickN t.f0 6 = 0 then x.sendM (pickN t.f1 2) t.f3
  else if pickN t.f0 6 = 1 then x.outM (pickN t.f1 2)
  else if pickN t.f0 6 = 2 then x.tickM (pickN t.f1 2)
  else if x.way (pickN t.f1 2) = [] then x
  else x.come (pickN t.f1 2) (pickN t.f0 6) (pickN t.f2 (x.way (pickN t.f1 2)).length)
/-- A frame that comes is told rightly. -/
def fine (x : PaM) (t : TurnT) : Prop := ∀ w i, w = pickN t.f1 2 → 3 ≤ pickN t.f0 6 → pickN t.f0 6 ≠ 4 → x.way w ≠ [] → i = pickN t.f2 (x.way w).length →
  ((x.l w).take (x.frame w i)).2.2 = false ∧ (x.told w ++ ((x.l w).take (x.frame w i)).2.1) <+: x.sent (1 - w)
/-- Sizes. -/
structure Ok (x : PaM) : Prop where
  l : ∀ i, i < 2 → (x.l i).Ok
  way : ∀ i, i < 2 → (x.way i).length ≤ 100000
  sent : ∀ i, i < 2 → (x.sent i).length ≤ 100000
  told : ∀ i, i < 2 → (x.told i).length ≤ 100000
  f0 : ∀ i, i < 2 → ∀ f, f ∈ x.way i → -9223372036854775808 ≤ f.f0
end PaM
/-- What stays where it is. -/
def SameB (B B' : PB) : Prop := B'.gx = B.gx ∧ B'.gl = B.gl ∧ B'.gw = B.gw ∧ B'.gs = B.gs ∧ B'.gt = B.gt ∧ B'.g = B.g
/-- Blocks of a turn stay. -/
def KeepT (W W' : World) : Prop := ∀ (d : Nat) (C : Array Value), W.heap[d]? = some (Obj.cells C 28 (0, 0)) → W'.heap[d]? = some (Obj.cells C 28 (0, 0))
structure KeepB (W : World) (b3 : Nat) (box : Array Value) (W' : World) : Prop where
  D : W'.heap[b3]? = some (.cells box 28 (0, 0))
  K : KeepT W W'
namespace KeepB
variable {W W1 W2 : World} {b3 : Nat} {box : Array Value}
theorem map (h : KeepB W b3 box W1) (f : KeepT W1 W2) : KeepB W b3 box W2 := ⟨f _ _ h.D, fun d C e => f _ _ (h.K d C e)⟩
theorem drew (h : KeepB W b3 box W1) : KeepB W b3 box W1.drew := h.map fun _ _ e => blk_drew e
theorem drewN (h : KeepB W b3 box W1) (m : Nat) : KeepB W b3 box (W1.drewN m) := h.map fun _ _ e => blk_drewN e m
theorem alloc (h : KeepB W b3 box W1) (o : Obj) : KeepB W b3 box (W1.alloc o) := h.map fun _ _ e => blk_alloc e o
theorem deed (h : KeepB W b3 box W1) {g b : Nat} {l : LkS} {V V' : Value} (hO : LkOnly W1 W2 g V V') (hl : LkIs W1 b g l V) : KeepB W b3 box W2 := h.map fun _ _ e => hO.box hl e (by decide) (by decide)
theorem grown (h : KeepB W b3 box W1) {α : Type} {k : Kd α} {e n : Nat} {ok : Nat → Prop} {v : Value} {xs : List α} (hr : k.R e W1 n ok v xs) (hg : W1.grownBy W2 v.ownBlock) (he : e ≠ 28) : KeepB W b3 box W2 := h.map fun _ _ hb => blk_grown hb hg (Kd.R_ne hr hb he)
theorem only (h : KeepB W b3 box W1) (ho : Only W1 W2 (fun _ => False)) : KeepB W b3 box W2 := h.map fun _ _ hb => ho.blk hb (fun h => h)
theorem put (h : KeepB W b3 box W1) {g t : Nat} {D : Array Value} (hb : W1.heap[g]? = some (.cells D t (0, 0))) (ht : t ≠ 28) (j : Nat) (v : Value) : KeepB W b3 box (W1.setCell ⟨g, j, none⟩ v) := h.map fun _ _ e => blk_far (p := ⟨g, j, none⟩) e (blk_ne e hb (Ne.symm ht)) v
end KeepB
/-- What a turn leaves. -/
def TurnPost (w W : World) (B : PB) (x : PaM) (e : Ending) (W' : World) : Prop := e = .returned (.bool true) ∧ ∃ B', SameB B B' ∧ PairIs w W' B' x ∧ KeepT W W'
theorem turnPost {w W W' : World} {b3 : Nat} {box : Array Value} {B B' : PB} {x y : PaM} (hx : y = x) (h : PairIs w W' B' x) (hs : SameB B B') (hk : KeepB W b3 box W') : TurnPost w W B y (.returned (.bool true)) W' := by
  subst hx
  exact ⟨rfl, B', hs, h, hk.K⟩
theorem SameB.refl (B : PB) : SameB B B := ⟨rfl, rfl, rfl, rfl, rfl, rfl⟩
/-- What a region's loads read. -/
structure PairS (W : World) (B : PB) (b3 : Nat) (box : Array Value) : Prop where
  X : W.heap[B.gx]? = some (.cells #[.slice (some ⟨B.gl, 0, none⟩) 2 2, .slice (some ⟨B.gw, 0, none⟩) 2 2, .slice (some ⟨B.gs, 0, none⟩) 2 2, .slice (some ⟨B.gt, 0, none⟩) 2 2] 35 (0, 0))
  L : W.heap[B.gl]? = some (.cells #[.pointer (some ⟨B.g 0, 0, none⟩), .pointer (some ⟨B.g 1, 0, none⟩)] 37 (0, 0))
  Y : W.heap[B.gw]? = some (.cells #[B.wv 0, B.wv 1] 30 (0, 0))
  S : W.heap[B.gs]? = some (.cells #[B.sv 0, B.sv 1] 36 (0, 0))
  T : W.heap[B.gt]? = some (.cells #[B.tv 0, B.tv 1] 36 (0, 0))
  D : W.heap[b3]? = some (.cells box 28 (0, 0))
namespace PairS
variable {W W' : World} {B : PB} {b3 : Nat} {box : Array Value}
theorem at_l (h : PairS W B b3 box) (i : Nat) (hi : i < 2) : W.cell? ⟨B.gl, i, none⟩ = some (.pointer (some ⟨B.g i, 0, none⟩)) := by
  rcases two01 hi with rfl | rfl <;> exact blk_cell h.L _
theorem at_w (h : PairS W B b3 box) (i : Nat) (hi : i < 2) : W.cell? ⟨B.gw, i, none⟩ = some (B.wv i) := by
  rcases two01 hi with rfl | rfl <;> exact blk_cell h.Y _
theorem at_s (h : PairS W B b3 box) (i : Nat) (hi : i < 2) : W.cell? ⟨B.gs, i, none⟩ = some (B.sv i) := by
  rcases two01 hi with rfl | rfl <;> exact blk_cell h.S _
theorem at_t (h : PairS W B b3 box) (i : Nat) (hi : i < 2) : W.cell? ⟨B.gt, i, none⟩ = some (B.tv i) := by
  rcases two01 hi with rfl | rfl <;> exact blk_cell h.T _
theorem of {w : World} {x : PaM} (h : PairIs w W B x) (hd : W.heap[b3]? = some (.cells box 28 (0, 0))) : PairS W B b3 box := ⟨h.X, h.L, h.Y, h.S, h.T, hd⟩
theorem below (h : PairS W B b3 box) (hb : Below W.heap.size W W') : PairS W' B b3 box := ⟨blk_below h.X hb, blk_below h.L hb, blk_below h.Y hb, blk_below h.S hb, blk_below h.T hb, blk_below h.D hb⟩
theorem alloc (h : PairS W B b3 box) (o : Obj) : PairS (W.alloc o) B b3 box := h.below (below_alloc (Below.refl _ _) o)
theorem row {α : Type} {k : Kd α} {e n : Nat} {ok : Nat → Prop} {v : Value} {xs : List α} (h : PairS W B b3 box) (hr : k.R e W n ok v xs) (hg : W.grownBy W' v.ownBlock) (he : e = 9 ∨ e = 46) : PairS W' B b3 box := by
  rcases he with rfl | rfl <;> exact ⟨blk_grown h.X hg (Kd.R_ne hr h.X (by decide)), blk_grown h.L hg (Kd.R_ne hr h.L (by decide)), blk_grown h.Y hg (Kd.R_ne hr h.Y (by decide)), blk_grown h.S hg (Kd.R_ne hr h.S (by decide)), blk_grown h.T hg (Kd.R_ne hr h.T (by decide)), blk_grown h.D hg (Kd.R_ne hr h.D (by decide))⟩
theorem cast {V' : Nat → Value} (h : PairS W { B with V := V' } b3 box) : PairS W B b3 box := ⟨h.X, h.L, h.Y, h.S, h.T, h.D⟩
theorem none_ (h : PairS W B b3 box) (hg : W.grownBy W' none) : PairS W' B b3 box := ⟨blk_grown h.X hg (by simp), blk_grown h.L hg (by simp), blk_grown h.Y hg (by simp), blk_grown h.S hg (by simp), blk_grown h.T hg (by simp), blk_grown h.D hg (by simp)⟩
theorem only {S : Nat → Prop} (h : PairS W B b3 box) (ho : Only W W' S) (hS : ∀ i, ¬ S i) : PairS W' B b3 box := ⟨ho.blk h.X (hS _), ho.blk h.L (hS _), ho.blk h.Y (hS _), ho.blk h.S (hS _), ho.blk h.T (hS _), ho.blk h.D (hS _)⟩
end PairS
theorem rowF_at {W : World} {b g n cap : Nat} {ok : Nat → Prop} {xs : List FrT} (h : kF.R 46 W b ok (.slice (some ⟨g, 0, none⟩) n cap) xs) (k : Nat) (hk : k < xs.length) :
    W.cell? ⟨g, k * 5, none⟩ = some (.int .i64 (xs.getD k z46).f0) ∧ W.cell? ⟨g, k * 5 + 1, none⟩ = some (.int .i64 (xs.getD k z46).f1) ∧ W.cell? ⟨g, k * 5 + 2, none⟩ = some (.int .i64 (xs.getD k z46).f2) ∧ W.cell? ⟨g, k * 5 + 3, none⟩ = some (.int .i64 (xs.getD k z46).f3) ∧ W.cell? ⟨g, k * 5 + 4, none⟩ = some (.string (xs.getD k z46).f4) := by
  obtain ⟨hn, hc, hC⟩ := Kd.R_reads' h
  obtain ⟨ad, e, h0, h1, h2, h3, h4⟩ := at_T46 hC (k : Int) (by omega) (by omega)
  injection e with e
  subst e
  rw [show ((k : Int)).toNat = k from rfl, add_plain] at h0 h1 h2 h3 h4
  exact ⟨h0, h1, h2, h3, h4⟩
theorem getD_mem {α : Type} (l : List α) (k : Nat) (d : α) (h : k < l.length) : l.getD k d ∈ l := by
  rw [List.getD_eq_getElem?_getD, List.getElem?_eq_getElem h]
  exact List.getElem_mem h
theorem Only.rowOf {W W' : World} {row : Option Nat} (hg : W.grownBy W' row) : Only W W' (fun k => row = some k) := ⟨hg.os, hg.tape, hg.output, hg.size, fun i hi hn => hg.block i hi (fun e => hn e.symm)⟩
theorem Only.none_ {W W' : World} {S : Nat → Prop} (hg : W.grownBy W' none) : Only W W' S := ⟨hg.os, hg.tape, hg.output, hg.size, fun i hi hn => hg.block i hi (by simp)⟩
/-- A slot of a block of two slices, behind an append to what it holds. -/
theorem slot_at {W W' : World} {gb t i : Nat} {f : Nat → Value} {row : Option Nat} (hb : W.heap[gb]? = some (.cells #[f 0, f 1] t (0, 0))) (hg : W.grownBy W' row) (hne : some gb ≠ row) (hi : i < 2) : W'.cell? ⟨gb, i, none⟩ = some (f i) ∧ W'.frozen? ⟨gb, i, none⟩ = false := by
  have h := blk_grown hb hg hne
  refine ⟨?_, blk_frozen h i⟩
  rcases two01 hi with rfl | rfl <;> exact blk_cell h _
set_option maxHeartbeats 16000000 in
set_option maxRecDepth 100000 in
theorem turn_tick (w W : World) (B : PB) (x : PaM) (f0 f1 f2 : Int) (f3 : ByteArray) (i0 : inB f0 = true) (i1 : inB f1 = true) (i2 : inB f2 = true) (H : Aside0 (PairIs w W B x)) (hx : Aside0 x.Ok) (Y : PaM) (HY : Aside0 (x.turn ⟨f0, f1, f2, f3⟩ = Y)) (hk : pickN f0 6 = 2) :
    Calls Try.prog 11 #[.pointer (some ⟨B.gx, 0, none⟩), .agg #[.int .i64 f0, .int .i64 f1, .int .i64 f2, .string f3]] W (TurnPost w W B Y) := by
  obtain ⟨pw, hpw⟩ : ∃ pw, pickN f1 2 = pw := ⟨_, rfl⟩
  obtain ⟨kd, hkd⟩ : ∃ kd, pickN f0 6 = kd := ⟨_, rfl⟩
  have hw2 : pw < 2 := by rw [← hpw]; exact pickN_lt f1 2 (by decide)
  have hk6 : kd < 6 := by rw [← hkd]; exact pickN_lt f0 6 (by decide)
  obtain ⟨po, hpo⟩ : ∃ po, 1 - pw = po := ⟨_, rfl⟩
  have ho2 : po < 2 := by omega
  have HPO := Aside0.mk hpo
  have HP1 := Aside0.mk (fun W => pick_calls f1 2 W i1 (by decide) (by decide))
  have HP0 := Aside0.mk (fun W => pick_calls f0 6 W i0 (by decide) (by decide))
  simp only [hpw] at HP1
  simp only [hkd] at HP0
  have HKD := Aside0.mk hkd
  have HPW := Aside0.mk hpw
  have hpoI : (1 : Int) - (pw : Int) = (po : Int) := by omega
  rw [hkd] at hk
  have hk0 : ((kd : Int) == 0) = false := beq_eq_false_iff_ne.mpr (by omega)
  have hk1 : ((kd : Int) == 1) = false := beq_eq_false_iff_ne.mpr (by omega)
  have hk2 : ((kd : Int) == 2) = true := beq_iff_eq.mpr (by omega)
  have HE : Aside0 (Y = x.tickM pw) := ⟨by rw [← HY.out]; unfold PaM.turn; simp [hkd, hk, hpw]⟩
  have HX0 : Aside0 (KeepB W W.heap.size #[.int .i64 f0, .int .i64 f1, .int .i64 f2, .string f3] (W.alloc (.cells #[.int .i64 f0, .int .i64 f1, .int .i64 f2, .string f3] 28))) := ⟨⟨heap_alloc_new W (.cells #[.int .i64 f0, .int .i64 f1, .int .i64 f2, .string f3] 28), fun _ _ e => blk_alloc e _⟩⟩
  have HQ0 := Aside0.mk (H.out.alloc (.cells #[.int .i64 f0, .int .i64 f1, .int .i64 f2, .string f3] 28))
  obtain ⟨b3, hb3⟩ : ∃ b3, W.heap.size = b3 := ⟨_, rfl⟩
  rw [hb3] at HX0
  clear hpw hkd hpo i0 i1
  go_enter Try.func11, Try.ntmps11
  go_wp2_with (go_at_call 14; refine (HP1.out _).mono ?_)
  rintro e W1 ⟨rfl, m1, rfl⟩
  try rw [hb3]
  clear hb3
  have HX1 := Aside0.mk (HX0.out.drewN m1)
  have HQ1 := Aside0.mk (HQ0.out.drewN m1)
  generalize (W.alloc (.cells #[.int .i64 f0, .int .i64 f1, .int .i64 f2, .string f3] 28)).drewN m1 = W1 at HX1 HQ1 ⊢
  clear HX0 HQ0 HP1
  obtain ⟨z0, z1, z2, z3, _, _, _, _⟩ := bx4 HX1.out.D
  go_wp2_with (go_at_call 14; refine (HP0.out _).mono ?_)
  rintro e W2 ⟨rfl, m2, rfl⟩
  have HX2 := Aside0.mk (HX1.out.drewN m2)
  have HQ2 := Aside0.mk (HQ1.out.drewN m2)
  generalize W1.drewN m2 = W2 at HX2 HQ2 ⊢
  clear HX1 HQ1 HP0 z0 z1 z2 z3
  obtain ⟨x0, x1, x2, x3, _, _, _, _⟩ := bx4 HQ2.out.X
  have hp := HQ2.out.at_l pw hw2
  have hpI : (pw : Int) < 2 := by omega
  have HC : Aside0 (∀ W, PairIs w W B x → Calls Try.prog 17 #[.pointer (some ⟨B.g pw, 0, none⟩)] W fun e w' => e = .returned (.tuple #[]) ∧ LkIs w' w.heap.size (B.g pw) (x.l pw).tick (B.V pw) ∧ LkOnly W w' (B.g pw) (B.V pw) (B.V pw)) := ⟨fun W h => tick_calls _ _ _ _ W (h.lk pw hw2) (hx.out.l pw hw2)⟩
  go_wp2_with (go_at_call 17; refine (HC.out _ HQ2.out).mono ?_)
  rintro e W3 ⟨rfl, hA, hO⟩
  have HQ3 := Aside0.mk (HQ2.out.deed pw hw2 hA hO)
  have HX3 := Aside0.mk (HX2.out.deed hO (HQ2.out.lk pw hw2))
  clear hA hO
  go_wp2
  go_ret
  exact turnPost HE.out HQ3.out ⟨rfl, rfl, rfl, rfl, rfl, rfl⟩ HX3.out
set_option maxHeartbeats 16000000 in
set_option maxRecDepth 100000 in
theorem turn_sendno (w W : World) (B : PB) (x : PaM) (f0 f1 f2 : Int) (f3 : ByteArray) (i0 : inB f0 = true) (i1 : inB f1 = true) (i2 : inB f2 = true) (H : Aside0 (PairIs w W B x)) (hx : Aside0 x.Ok) (Y : PaM) (HY : Aside0 (x.turn ⟨f0, f1, f2, f3⟩ = Y)) (hk : pickN f0 6 = 0) (hs : ((x.l (pickN f1 2)).send f3).2 ≠ 0) :
    Calls Try.prog 11 #[.pointer (some ⟨B.gx, 0, none⟩), .agg #[.int .i64 f0, .int .i64 f1, .int .i64 f2, .string f3]] W (TurnPost w W B Y) := by
  obtain ⟨pw, hpw⟩ : ∃ pw, pickN f1 2 = pw := ⟨_, rfl⟩
  obtain ⟨kd, hkd⟩ : ∃ kd, pickN f0 6 = kd := ⟨_, rfl⟩
  have hw2 : pw < 2 := by rw [← hpw]; exact pickN_lt f1 2 (by decide)
  have hk6 : kd < 6 := by rw [← hkd]; exact pickN_lt f0 6 (by decide)
  obtain ⟨po, hpo⟩ : ∃ po, 1 - pw = po := ⟨_, rfl⟩
  have ho2 : po < 2 := by omega
  have HPO := Aside0.mk hpo
  have HP1 := Aside0.mk (fun W => pick_calls f1 2 W i1 (by decide) (by decide))
  have HP0 := Aside0.mk (fun W => pick_calls f0 6 W i0 (by decide) (by decide))
  simp only [hpw] at HP1
  simp only [hkd] at HP0
  have HKD := Aside0.mk hkd
  have HPW := Aside0.mk hpw
  have hpoI : (1 : Int) - (pw : Int) = (po : Int) := by omega
  rw [hkd] at hk
  rw [hpw] at hs
  have hk0 : ((kd : Int) == 0) = true := beq_iff_eq.mpr (by omega)
  have HE : Aside0 (Y = x.sendM pw f3) := ⟨by rw [← HY.out]; unfold PaM.turn; simp [hkd, hk, hpw]⟩
  have HX0 : Aside0 (KeepB W W.heap.size #[.int .i64 f0, .int .i64 f1, .int .i64 f2, .string f3] (W.alloc (.cells #[.int .i64 f0, .int .i64 f1, .int .i64 f2, .string f3] 28))) := ⟨⟨heap_alloc_new W (.cells #[.int .i64 f0, .int .i64 f1, .int .i64 f2, .string f3] 28), fun _ _ e => blk_alloc e _⟩⟩
  have HQ0 := Aside0.mk (H.out.alloc (.cells #[.int .i64 f0, .int .i64 f1, .int .i64 f2, .string f3] 28))
  obtain ⟨b3, hb3⟩ : ∃ b3, W.heap.size = b3 := ⟨_, rfl⟩
  rw [hb3] at HX0
  clear hpw hkd hpo i0 i1
  go_enter Try.func11, Try.ntmps11
  go_wp2_with (go_at_call 14; refine (HP1.out _).mono ?_)
  rintro e W1 ⟨rfl, m1, rfl⟩
  try rw [hb3]
  clear hb3
  have HX1 := Aside0.mk (HX0.out.drewN m1)
  have HQ1 := Aside0.mk (HQ0.out.drewN m1)
  generalize (W.alloc (.cells #[.int .i64 f0, .int .i64 f1, .int .i64 f2, .string f3] 28)).drewN m1 = W1 at HX1 HQ1 ⊢
  clear HX0 HQ0 HP1
  obtain ⟨z0, z1, z2, z3, _, _, _, _⟩ := bx4 HX1.out.D
  go_wp2_with (go_at_call 14; refine (HP0.out _).mono ?_)
  rintro e W2 ⟨rfl, m2, rfl⟩
  have HX2 := Aside0.mk (HX1.out.drewN m2)
  have HQ2 := Aside0.mk (HQ1.out.drewN m2)
  generalize W1.drewN m2 = W2 at HX2 HQ2 ⊢
  clear HX1 HQ1 HP0 z0 z1 z2 z3
  obtain ⟨er, her⟩ : ∃ er, ((x.l pw).send f3).2 = er := ⟨_, rfl⟩
  have HER := Aside0.mk her
  rw [her] at hs
  have her0 : (er == 0) = false := beq_eq_false_iff_ne.mpr hs
  have HC : Aside0 (∀ W, PairIs w W B x → Calls Try.prog 15 #[.pointer (some ⟨B.g pw, 0, none⟩), .string f3] W fun e w' => e = .returned (.int .i64 er) ∧ ∃ V', LkIs w' w.heap.size (B.g pw) ((x.l pw).send f3).1 V' ∧ LkOnly W w' (B.g pw) (B.V pw) V') := ⟨fun W h => by have := send_calls _ _ _ _ f3 W (h.lk pw hw2) (hx.out.l pw hw2).w; rw [her] at this; exact this⟩
  have hpI : (pw : Int) < 2 := by omega
  clear her hs
  go_wp2
  have HQd := Aside0.mk HQ2.out.drew
  have HXd := Aside0.mk (HX2.out.drew)
  refine start_ (n := 11) (S := fun W => PairS W B b3 #[.int .i64 f0, .int .i64 f1, .int .i64 f2, .string f3]) (ds := []) (bz 11 0) (by kernel_rfl) rfl rfl (PairS.of HQd.out HXd.out.D) (fun hHeld => ?_); refine with_tabW tuR.tab22 tuR.bits22 (fun HT_ HW_ => ?_)
  generalize W2.drew = W3 at hHeld HQd HXd ⊢
  refine pu_ 0 (some 167) (bz 11 1) HT_.out ?_
  refine pu_ 1 (some 168) (bz 11 3) HT_.out ?_
  refine pu_ 2 (some 169) (bz 11 7) HT_.out ?_
  refine pu_ 4 (some 171) (bz 11 23) HT_.out ?_
  refine pu_ 7 (some 174) (bz 11 151) HT_.out ?_
  refine take_ (i := 3) (N := (some 170)) (v := ?_) (a' := ?_) (bz 11 159) rfl rfl (take_ofW HT_.out HW_.out (by kernel_rfl)) (fun _ _ _ h => h) (Or.inl ⟨by rfl, ?_⟩) hHeld ?_ ?_
  rotate_left
  · rintro w' s0
    obtain ⟨x0, x1, x2, x3, _, _, _, _⟩ := bx4 s0.X
    go_simp
    with_reducible rfl
  rotate_left
  · simp only [Act.put, sl1, sl2, sl3, i64_w, i32_w]
    rfl
  refine pu_ 5 (some 172) (bz 11 191) HT_.out ?_
  refine take_ (i := 6) (N := (some 173)) (v := ?_) (a' := ?_) (bz 11 255) rfl rfl (take_ofW HT_.out HW_.out (by kernel_rfl)) (fun _ _ _ h => h) (Or.inl ⟨by rfl, ?_⟩) hHeld ?_ ?_
  rotate_left
  · rintro w' s0
    have y0 := s0.at_l pw hw2
    go_simp
    with_reducible rfl
  rotate_left
  · simp only [Act.put, sl1, sl2, sl3, i64_w, i32_w]
    rfl
  refine take_ (i := 8) (N := (some 175)) (v := ?_) (a' := ?_) (bz 11 511) rfl rfl (take_ofW HT_.out HW_.out (by kernel_rfl)) (fun _ _ _ h => h) (Or.inl ⟨by rfl, ?_⟩) hHeld ?_ ?_
  rotate_left
  · rintro w' s0
    obtain ⟨d0, d1, d2, d3, _, _, _, _⟩ := bx4 s0.D
    go_simp
    with_reducible rfl
  rotate_left
  · simp only [Act.put, sl1, sl2, sl3, i64_w, i32_w]
    rfl
  refine one_ (i := 9) (N := (some 176)) (bz 11 1023) rfl rfl (one_of HT_.out (by kernel_rfl)) (by decide) (fun K hK => ?_)
  refine goes_ Try.func15 (by kernel_rfl) rfl #[.pointer (some ⟨B.g pw, 0, none⟩), .string f3] (by rfl) rfl rfl am ?_
  refine (HC.out _ HQd.out).mono ?_
  rintro e w1 ⟨rfl, V1, hA, hO⟩
  refine ⟨_, rfl, ?_⟩
  have HQ4 := Aside0.mk (HQd.out.deed pw hw2 hA hO)
  have HX4 := Aside0.mk (HXd.out.deed hO (HQd.out.lk pw hw2))
  refine hK.out _ _ ⟨HQ4.out.X, HQ4.out.L, HQ4.out.Y, HQ4.out.S, HQ4.out.T, HX4.out.D⟩ (fun hHeld => ?_)
  clear hK K
  refine norm_ (a' := ?_) ?_ ?_
  rotate_left
  · show Act.put _ (some 176) _ = _
    simp only [Act.put, sl1, sl2, sl3, i64_w, i32_w]
    rfl
  refine pu_ 10 (some 177) (bz 11 2047) HT_.out ?_
  refine done_ (done_of HT_.out (by kernel_rfl)) ?_
  clear HT_ HW_ hHeld hA hO
  go_wp2
  go_ret
  exact turnPost (HE.out.trans (show x.sendM pw f3 = { x with l := upd x.l pw ((x.l pw).send f3).1 } by unfold PaM.sendM; rw [if_neg (by rw [HER.out]; exact beq_eq_false_iff_ne.mp her0)])) HQ4.out ⟨rfl, rfl, rfl, rfl, rfl, rfl⟩ HX4.out
set_option maxHeartbeats 16000000 in
set_option maxRecDepth 100000 in
theorem turn_sendok (w W : World) (B : PB) (x : PaM) (f0 f1 f2 : Int) (f3 : ByteArray) (i0 : inB f0 = true) (i1 : inB f1 = true) (i2 : inB f2 = true) (H : Aside0 (PairIs w W B x)) (hx : Aside0 x.Ok) (Y : PaM) (HY : Aside0 (x.turn ⟨f0, f1, f2, f3⟩ = Y)) (hk : pickN f0 6 = 0) (hs : ((x.l (pickN f1 2)).send f3).2 = 0) :
    Calls Try.prog 11 #[.pointer (some ⟨B.gx, 0, none⟩), .agg #[.int .i64 f0, .int .i64 f1, .int .i64 f2, .string f3]] W (TurnPost w W B Y) := by
  obtain ⟨pw, hpw⟩ : ∃ pw, pickN f1 2 = pw := ⟨_, rfl⟩
  obtain ⟨kd, hkd⟩ : ∃ kd, pickN f0 6 = kd := ⟨_, rfl⟩
  have hw2 : pw < 2 := by rw [← hpw]; exact pickN_lt f1 2 (by decide)
  have hk6 : kd < 6 := by rw [← hkd]; exact pickN_lt f0 6 (by decide)
  obtain ⟨po, hpo⟩ : ∃ po, 1 - pw = po := ⟨_, rfl⟩
  have ho2 : po < 2 := by omega
  have HPO := Aside0.mk hpo
  have HP1 := Aside0.mk (fun W => pick_calls f1 2 W i1 (by decide) (by decide))
  have HP0 := Aside0.mk (fun W => pick_calls f0 6 W i0 (by decide) (by decide))
  simp only [hpw] at HP1
  simp only [hkd] at HP0
  have HKD := Aside0.mk hkd
  have HPW := Aside0.mk hpw
  have hpoI : (1 : Int) - (pw : Int) = (po : Int) := by omega
  rw [hkd] at hk
  rw [hpw] at hs
  have hk0 : ((kd : Int) == 0) = true := beq_iff_eq.mpr (by omega)
  have HE : Aside0 (Y = x.sendM pw f3) := ⟨by rw [← HY.out]; unfold PaM.turn; simp [hkd, hk, hpw]⟩
  have HX0 : Aside0 (KeepB W W.heap.size #[.int .i64 f0, .int .i64 f1, .int .i64 f2, .string f3] (W.alloc (.cells #[.int .i64 f0, .int .i64 f1, .int .i64 f2, .string f3] 28))) := ⟨⟨heap_alloc_new W (.cells #[.int .i64 f0, .int .i64 f1, .int .i64 f2, .string f3] 28), fun _ _ e => blk_alloc e _⟩⟩
  have HQ0 := Aside0.mk (H.out.alloc (.cells #[.int .i64 f0, .int .i64 f1, .int .i64 f2, .string f3] 28))
  obtain ⟨b3, hb3⟩ : ∃ b3, W.heap.size = b3 := ⟨_, rfl⟩
  rw [hb3] at HX0
  clear hpw hkd hpo i0 i1
  go_enter Try.func11, Try.ntmps11
  go_wp2_with (go_at_call 14; refine (HP1.out _).mono ?_)
  rintro e W1 ⟨rfl, m1, rfl⟩
  try rw [hb3]
  clear hb3
  have HX1 := Aside0.mk (HX0.out.drewN m1)
  have HQ1 := Aside0.mk (HQ0.out.drewN m1)
  generalize (W.alloc (.cells #[.int .i64 f0, .int .i64 f1, .int .i64 f2, .string f3] 28)).drewN m1 = W1 at HX1 HQ1 ⊢
  clear HX0 HQ0 HP1
  obtain ⟨z0, z1, z2, z3, _, _, _, _⟩ := bx4 HX1.out.D
  go_wp2_with (go_at_call 14; refine (HP0.out _).mono ?_)
  rintro e W2 ⟨rfl, m2, rfl⟩
  have HX2 := Aside0.mk (HX1.out.drewN m2)
  have HQ2 := Aside0.mk (HQ1.out.drewN m2)
  generalize W1.drewN m2 = W2 at HX2 HQ2 ⊢
  clear HX1 HQ1 HP0 z0 z1 z2 z3
  obtain ⟨er, her⟩ : ∃ er, ((x.l pw).send f3).2 = er := ⟨_, rfl⟩
  have HER := Aside0.mk her
  rw [her] at hs
  have her0 : (er == 0) = true := beq_iff_eq.mpr hs
  have HC : Aside0 (∀ W, PairIs w W B x → Calls Try.prog 15 #[.pointer (some ⟨B.g pw, 0, none⟩), .string f3] W fun e w' => e = .returned (.int .i64 er) ∧ ∃ V', LkIs w' w.heap.size (B.g pw) ((x.l pw).send f3).1 V' ∧ LkOnly W w' (B.g pw) (B.V pw) V') := ⟨fun W h => by have := send_calls _ _ _ _ f3 W (h.lk pw hw2) (hx.out.l pw hw2).w; rw [her] at this; exact this⟩
  have hpI : (pw : Int) < 2 := by omega
  clear her hs
  go_wp2
  have HQd := Aside0.mk HQ2.out.drew
  have HXd := Aside0.mk (HX2.out.drew)
  refine start_ (n := 11) (S := fun W => PairS W B b3 #[.int .i64 f0, .int .i64 f1, .int .i64 f2, .string f3]) (ds := []) (bz 11 0) (by kernel_rfl) rfl rfl (PairS.of HQd.out HXd.out.D) (fun hHeld => ?_); refine with_tabW tuR.tab22 tuR.bits22 (fun HT_ HW_ => ?_)
  generalize W2.drew = W3 at hHeld HQd HXd ⊢
  refine pu_ 0 (some 167) (bz 11 1) HT_.out ?_
  refine pu_ 1 (some 168) (bz 11 3) HT_.out ?_
  refine pu_ 2 (some 169) (bz 11 7) HT_.out ?_
  refine pu_ 4 (some 171) (bz 11 23) HT_.out ?_
  refine pu_ 7 (some 174) (bz 11 151) HT_.out ?_
  refine take_ (i := 3) (N := (some 170)) (v := ?_) (a' := ?_) (bz 11 159) rfl rfl (take_ofW HT_.out HW_.out (by kernel_rfl)) (fun _ _ _ h => h) (Or.inl ⟨by rfl, ?_⟩) hHeld ?_ ?_
  rotate_left
  · rintro w' s0
    obtain ⟨x0, x1, x2, x3, _, _, _, _⟩ := bx4 s0.X
    go_simp
    with_reducible rfl
  rotate_left
  · simp only [Act.put, sl1, sl2, sl3, i64_w, i32_w]
    rfl
  refine pu_ 5 (some 172) (bz 11 191) HT_.out ?_
  refine take_ (i := 6) (N := (some 173)) (v := ?_) (a' := ?_) (bz 11 255) rfl rfl (take_ofW HT_.out HW_.out (by kernel_rfl)) (fun _ _ _ h => h) (Or.inl ⟨by rfl, ?_⟩) hHeld ?_ ?_
  rotate_left
  · rintro w' s0
    have y0 := s0.at_l pw hw2
    go_simp
    with_reducible rfl
  rotate_left
  · simp only [Act.put, sl1, sl2, sl3, i64_w, i32_w]
    rfl
  refine take_ (i := 8) (N := (some 175)) (v := ?_) (a' := ?_) (bz 11 511) rfl rfl (take_ofW HT_.out HW_.out (by kernel_rfl)) (fun _ _ _ h => h) (Or.inl ⟨by rfl, ?_⟩) hHeld ?_ ?_
  rotate_left
  · rintro w' s0
    obtain ⟨d0, d1, d2, d3, _, _, _, _⟩ := bx4 s0.D
    go_simp
    with_reducible rfl
  rotate_left
  · simp only [Act.put, sl1, sl2, sl3, i64_w, i32_w]
    rfl
  refine one_ (i := 9) (N := (some 176)) (bz 11 1023) rfl rfl (one_of HT_.out (by kernel_rfl)) (by decide) (fun K hK => ?_)
  refine goes_ Try.func15 (by kernel_rfl) rfl #[.pointer (some ⟨B.g pw, 0, none⟩), .string f3] (by rfl) rfl rfl am ?_
  refine (HC.out _ HQd.out).mono ?_
  rintro e w1 ⟨rfl, V1, hA, hO⟩
  refine ⟨_, rfl, ?_⟩
  have HQ4 := Aside0.mk (HQd.out.deed pw hw2 hA hO)
  have HX4 := Aside0.mk (HXd.out.deed hO (HQd.out.lk pw hw2))
  refine hK.out _ _ ⟨HQ4.out.X, HQ4.out.L, HQ4.out.Y, HQ4.out.S, HQ4.out.T, HX4.out.D⟩ (fun hHeld => ?_)
  clear hK K
  refine norm_ (a' := ?_) ?_ ?_
  rotate_left
  · show Act.put _ (some 176) _ = _
    simp only [Act.put, sl1, sl2, sl3, i64_w, i32_w]
    rfl
  refine pu_ 10 (some 177) (bz 11 2047) HT_.out ?_
  refine done_ (done_of HT_.out (by kernel_rfl)) ?_
  clear HT_ HW_ hHeld hA hO
  go_wp2
  have HQ5 := Aside0.mk HQ4.out.drew
  have HX5 := Aside0.mk (HX4.out.drew)
  refine start_ (n := 18) (S := fun W => PairS W { B with V := upd B.V pw V1 } b3 #[.int .i64 f0, .int .i64 f1, .int .i64 f2, .string f3]) (ds := [17]) (bz 18 0) (by kernel_rfl) rfl rfl (PairS.of HQ5.out HX5.out.D) (fun hHeld => ?_); refine with_tabW tuR.tab23 tuR.bits23 (fun HT_ HW_ => ?_)
  generalize World.drew _ = W5 at hHeld HQ5 HX5 ⊢
  refine pu_ 0 (some 178) (bz 18 1) HT_.out ?_
  refine pu_ 1 (some 179) (bz 18 3) HT_.out ?_
  refine pu_ 2 (some 180) (bz 18 7) HT_.out ?_
  refine pu_ 4 (some 182) (bz 18 23) HT_.out ?_
  refine pu_ 5 (some 183) (bz 18 55) HT_.out ?_
  refine pu_ 6 (some 184) (bz 18 119) HT_.out ?_
  refine pu_ 7 (some 185) (bz 18 247) HT_.out ?_
  refine pu_ 9 (some 187) (bz 18 759) HT_.out ?_
  refine pu_ 12 (some 190) (bz 18 4855) HT_.out ?_
  refine take_ (i := 3) (N := (some 181)) (v := ?_) (a' := ?_) (bz 18 4863) rfl rfl (take_ofW HT_.out HW_.out (by kernel_rfl)) (fun _ _ _ h => h) (Or.inl ⟨by rfl, ?_⟩) hHeld ?_ ?_
  rotate_left
  · rintro w' s0
    obtain ⟨x0, x1, x2, x3, _, _, _, _⟩ := bx4 s0.X
    go_simp
    with_reducible rfl
  rotate_left
  · simp only [Act.put, sl1, sl2, sl3, i64_w, i32_w]
    rfl
  refine take_ (i := 8) (N := (some 186)) (v := ?_) (a' := ?_) (bz 18 5119) rfl rfl (take_ofW HT_.out HW_.out (by kernel_rfl)) (fun _ _ _ h => h) (Or.inl ⟨by rfl, ?_⟩) hHeld ?_ ?_
  rotate_left
  · rintro w' s0
    obtain ⟨x0, x1, x2, x3, _, _, _, _⟩ := bx4 s0.X
    go_simp
    with_reducible rfl
  rotate_left
  · simp only [Act.put, sl1, sl2, sl3, i64_w, i32_w]
    rfl
  refine pu_ 10 (some 188) (bz 18 6143) HT_.out ?_
  refine take_ (i := 11) (N := (some 189)) (v := ?_) (a' := ?_) (bz 18 8191) rfl rfl (take_ofW HT_.out HW_.out (by kernel_rfl)) (fun _ _ _ h => h) (Or.inl ⟨by rfl, ?_⟩) hHeld ?_ ?_
  rotate_left
  · rintro w' s0
    have y0 := s0.at_s pw hw2
    go_simp
    with_reducible rfl
  rotate_left
  · simp only [Act.put, sl1, sl2, sl3, i64_w, i32_w]
    rfl
  refine take_ (i := 13) (N := (some 191)) (v := ?_) (a' := ?_) (bz 18 16383) rfl rfl (take_ofW HT_.out HW_.out (by kernel_rfl)) (fun _ _ _ h => h) (Or.inl ⟨by rfl, ?_⟩) hHeld ?_ ?_
  rotate_left
  · rintro w' s0
    obtain ⟨d0, d1, d2, d3, _, _, _, _⟩ := bx4 s0.D
    go_simp
    with_reducible rfl
  rotate_left
  · simp only [Act.put, sl1, sl2, sl3, i64_w, i32_w]
    rfl
  refine one_ (i := 14) (N := (some 192)) (bz 18 32767) rfl rfl (one_of HT_.out (by kernel_rfl)) (by decide) (fun K hK => ?_)
  refine value_ (w1 := ?_) (v := ?_) (by rfl) rfl ?_ ?_
  rotate_left 2
  · go_simp
    constructor
    · rfl
    · rfl
  refine hK.out _ _ (hHeld.alloc _) (fun hHeld => ?_)
  clear hK K
  refine norm_ (a' := ?_) ?_ ?_
  rotate_left
  · show Act.put _ (some 192) _ = _
    simp only [Act.put, sl1, sl2, sl3, i64_w, i32_w]
    rfl
  refine one_ (i := 15) (N := (some 193)) (bz 18 65535) rfl rfl (one_of HT_.out (by kernel_rfl)) (by decide) (fun K hK => ?_)
  refine Kd.R_append_step Kd.string (w0 := w) w.heap.size (by rfl) (.tmp 189) (.tmp 192) 36 9 (.string ⟨#[]⟩) 16 rfl Try.underlying36 infoS rfl (by decide) (by omega) (B.sv pw) (x.sent pw) f3 [.string f3] (fun _ => True) (fun _ => False) rfl rfl ?aP (fun _ hk => hk.elim) ?aF ?aO ?aB ?aS ?aL ?_
  case aP => exact rfl
  case aF => exact (fun _ _ => trivial)
  case aO => exact HQ5.out.s pw hw2
  case aB => exact HQ5.out.two.Bl
  case aS => exact HQ5.out.two.Bl.size
  case aL => have := hx.out.sent pw hw2; omega
  intro v1 w6 ho hb hg hat
  obtain ⟨Av, cv, ev⟩ := Kd.R_slice ho
  rw [List.length_append, List.length_singleton] at ev
  subst ev
  obtain ⟨hsl, hsf⟩ := slot_at HQ5.out.S hg (Kd.R_ne (HQ5.out.s pw hw2) HQ5.out.S (by decide)) hw2
  have HXF := Aside0.mk (fun v => (HX5.out.grown (HQ5.out.s pw hw2) hg (by decide)).put (blk_grown HQ5.out.S hg (Kd.R_ne (HQ5.out.s pw hw2) HQ5.out.S (by decide))) (by decide) pw v)
  have HSF := Aside0.mk (HQ5.out.sent_grew pw hw2 ho (Only.rowOf hg) (hat_of hat))
  refine hK.out _ _ ((PairS.of HQ5.out HX5.out.D).row (HQ5.out.s pw hw2) hg (.inl rfl)) (fun hHeld => ?_)
  clear hK K
  refine norm_ (a' := ?_) ?_ ?_
  rotate_left
  · show Act.put _ (some 193) _ = _
    simp only [Act.put, sl1, sl2, sl3, i64_w, i32_w]
    rfl
  refine pu_ 16 (some 194) (bz 18 131071) HT_.out ?_
  refine last_ (i := 17) (N := none) (bz 18 262143) rfl rfl (one_of HT_.out (by kernel_rfl)) (by decide) (fun K hK => ?_)
  refine skip_ (w1 := ?_) (by rfl) rfl ?_ ?_
  rotate_left
  · go_simp
    rfl
  refine hK.out _ _ ?_
  clear hK K
  refine done_ (done_of HT_.out (by kernel_rfl)) ?_
  clear HT_ HW_
  go_wp2
  go_ret
  exact turnPost (HE.out.trans (show x.sendM pw f3 = { x with l := upd x.l pw ((x.l pw).send f3).1, sent := upd x.sent pw (x.sent pw ++ [f3]) } by unfold PaM.sendM; rw [if_pos (by rw [HER.out]; exact beq_iff_eq.mp her0)])) HSF.out ⟨rfl, rfl, rfl, rfl, rfl, rfl⟩ (HXF.out _)
set_option maxHeartbeats 16000000 in
set_option maxRecDepth 100000 in
theorem turn_out (w W : World) (B : PB) (x : PaM) (f0 f1 f2 : Int) (f3 : ByteArray) (i0 : inB f0 = true) (i1 : inB f1 = true) (i2 : inB f2 = true) (H : Aside0 (PairIs w W B x)) (hx : Aside0 x.Ok) (Y : PaM) (HY : Aside0 (x.turn ⟨f0, f1, f2, f3⟩ = Y)) (hk : pickN f0 6 = 1) :
    Calls Try.prog 11 #[.pointer (some ⟨B.gx, 0, none⟩), .agg #[.int .i64 f0, .int .i64 f1, .int .i64 f2, .string f3]] W (TurnPost w W B Y) := by
  obtain ⟨pw, hpw⟩ : ∃ pw, pickN f1 2 = pw := ⟨_, rfl⟩
  obtain ⟨kd, hkd⟩ : ∃ kd, pickN f0 6 = kd := ⟨_, rfl⟩
  have hw2 : pw < 2 := by rw [← hpw]; exact pickN_lt f1 2 (by decide)
  have hk6 : kd < 6 := by rw [← hkd]; exact pickN_lt f0 6 (by decide)
  obtain ⟨po, hpo⟩ : ∃ po, 1 - pw = po := ⟨_, rfl⟩
  have ho2 : po < 2 := by omega
  have HPO := Aside0.mk hpo
  have HP1 := Aside0.mk (fun W => pick_calls f1 2 W i1 (by decide) (by decide))
  have HP0 := Aside0.mk (fun W => pick_calls f0 6 W i0 (by decide) (by decide))
  simp only [hpw] at HP1
  simp only [hkd] at HP0
  have HKD := Aside0.mk hkd
  have HPW := Aside0.mk hpw
  have hpoI : (1 : Int) - (pw : Int) = (po : Int) := by omega
  rw [hkd] at hk
  have hk0 : ((kd : Int) == 0) = false := beq_eq_false_iff_ne.mpr (by omega)
  have hk1 : ((kd : Int) == 1) = true := beq_iff_eq.mpr (by omega)
  have HE : Aside0 (Y = x.outM pw) := ⟨by rw [← HY.out]; unfold PaM.turn; simp [hkd, hk, hpw]⟩
  have HX0 : Aside0 (KeepB W W.heap.size #[.int .i64 f0, .int .i64 f1, .int .i64 f2, .string f3] (W.alloc (.cells #[.int .i64 f0, .int .i64 f1, .int .i64 f2, .string f3] 28))) := ⟨⟨heap_alloc_new W (.cells #[.int .i64 f0, .int .i64 f1, .int .i64 f2, .string f3] 28), fun _ _ e => blk_alloc e _⟩⟩
  have HQ0 := Aside0.mk (H.out.alloc (.cells #[.int .i64 f0, .int .i64 f1, .int .i64 f2, .string f3] 28))
  obtain ⟨b3, hb3⟩ : ∃ b3, W.heap.size = b3 := ⟨_, rfl⟩
  rw [hb3] at HX0
  clear hpw hkd hpo i0 i1
  go_enter Try.func11, Try.ntmps11
  go_wp2_with (go_at_call 14; refine (HP1.out _).mono ?_)
  rintro e W1 ⟨rfl, m1, rfl⟩
  try rw [hb3]
  clear hb3
  have HX1 := Aside0.mk (HX0.out.drewN m1)
  have HQ1 := Aside0.mk (HQ0.out.drewN m1)
  generalize (W.alloc (.cells #[.int .i64 f0, .int .i64 f1, .int .i64 f2, .string f3] 28)).drewN m1 = W1 at HX1 HQ1 ⊢
  clear HX0 HQ0 HP1
  obtain ⟨z0, z1, z2, z3, _, _, _, _⟩ := bx4 HX1.out.D
  go_wp2_with (go_at_call 14; refine (HP0.out _).mono ?_)
  rintro e W2 ⟨rfl, m2, rfl⟩
  have HX2 := Aside0.mk (HX1.out.drewN m2)
  have HQ2 := Aside0.mk (HQ1.out.drewN m2)
  generalize W1.drewN m2 = W2 at HX2 HQ2 ⊢
  clear HX1 HQ1 HP0 z0 z1 z2 z3
  have hpI : (pw : Int) < 2 := by omega
  have hoI : (po : Int) < 2 := by omega
  have hoI0 : (0 : Int) ≤ (po : Int) := by omega
  have HC : Aside0 (∀ W, PairIs w W B x → Calls Try.prog 16 #[.pointer (some ⟨B.g pw, 0, none⟩)] W (OutPost W w.heap.size (B.g pw) (B.V pw) (x.l pw).outs)) := ⟨fun W h => outs_calls _ _ _ _ W (h.lk pw hw2) (hx.out.l pw hw2)⟩
  go_wp2
  have HQd := Aside0.mk HQ2.out.drew
  have HXd := Aside0.mk (HX2.out.drew)
  refine start_ (n := 23) (S := fun W => PairS W B b3 #[.int .i64 f0, .int .i64 f1, .int .i64 f2, .string f3]) (ds := [22]) (bz 23 0) (by kernel_rfl) rfl rfl (PairS.of HQd.out HXd.out.D) (fun hHeld => ?_); refine with_tabW tuR.tab25 tuR.bits25 (fun HT_ HW_ => ?_)
  generalize W2.drew = W3 at hHeld HQd HXd ⊢
  refine pu_ 0 (some 197) (bz 23 1) HT_.out ?_
  refine pu_ 1 (some 198) (bz 23 3) HT_.out ?_
  refine pu_ 2 (some 199) (bz 23 7) HT_.out ?_
  refine pu_ 4 (some 201) (bz 23 23) HT_.out ?_
  refine pu_ 5 (some 202) (bz 23 55) HT_.out ?_
  refine pu_ 6 (some 203) (bz 23 119) HT_.out ?_
  refine pu_ 7 (some 204) (bz 23 247) HT_.out ?_
  refine pu_ 9 (some 206) (bz 23 759) HT_.out ?_
  refine pu_ 12 (some 209) (bz 23 4855) HT_.out ?_
  refine pu_ 13 (some 210) (bz 23 13047) HT_.out ?_
  refine pu_ 14 (some 211) (bz 23 29431) HT_.out ?_
  refine pu_ 16 (some 213) (bz 23 94967) HT_.out ?_
  refine take_ (i := 3) (N := (some 200)) (v := ?_) (a' := ?_) (bz 23 94975) rfl rfl (take_ofW HT_.out HW_.out (by kernel_rfl)) (fun _ _ _ h => h) (Or.inl ⟨by rfl, ?_⟩) hHeld ?_ ?_
  rotate_left
  · rintro w' s0
    obtain ⟨x0, x1, x2, x3, _, _, _, _⟩ := bx4 s0.X
    go_simp
    with_reducible rfl
  rotate_left
  · simp only [Act.put, sl1, sl2, sl3, i64_w, i32_w]
    rfl
  refine take_ (i := 8) (N := (some 205)) (v := ?_) (a' := ?_) (bz 23 95231) rfl rfl (take_ofW HT_.out HW_.out (by kernel_rfl)) (fun _ _ _ h => h) (Or.inl ⟨by rfl, ?_⟩) hHeld ?_ ?_
  rotate_left
  · rintro w' s0
    obtain ⟨x0, x1, x2, x3, _, _, _, _⟩ := bx4 s0.X
    go_simp
    with_reducible rfl
  rotate_left
  · simp only [Act.put, sl1, sl2, sl3, i64_w, i32_w]
    rfl
  refine pu_ 10 (some 207) (bz 23 96255) HT_.out ?_
  refine take_ (i := 11) (N := (some 208)) (v := ?_) (a' := ?_) (bz 23 98303) rfl rfl (take_ofW HT_.out HW_.out (by kernel_rfl)) (fun _ _ _ h => h) (Or.inl ⟨by rfl, ?_⟩) hHeld ?_ ?_
  rotate_left
  · rintro w' s0
    have y0 := s0.at_w po ho2
    go_simp
    with_reducible rfl
  rotate_left
  · simp only [Act.put, sl1, sl2, sl3, i64_w, i32_w]
    rfl
  refine take_ (i := 15) (N := (some 212)) (v := ?_) (a' := ?_) (bz 23 131071) rfl rfl (take_ofW HT_.out HW_.out (by kernel_rfl)) (fun _ _ _ h => h) (Or.inl ⟨by rfl, ?_⟩) hHeld ?_ ?_
  rotate_left
  · rintro w' s0
    obtain ⟨x0, x1, x2, x3, _, _, _, _⟩ := bx4 s0.X
    go_simp
    with_reducible rfl
  rotate_left
  · simp only [Act.put, sl1, sl2, sl3, i64_w, i32_w]
    rfl
  refine pu_ 17 (some 214) (bz 23 262143) HT_.out ?_
  refine take_ (i := 18) (N := (some 215)) (v := ?_) (a' := ?_) (bz 23 524287) rfl rfl (take_ofW HT_.out HW_.out (by kernel_rfl)) (fun _ _ _ h => h) (Or.inl ⟨by rfl, ?_⟩) hHeld ?_ ?_
  rotate_left
  · rintro w' s0
    have y0 := s0.at_l pw hw2
    go_simp
    with_reducible rfl
  rotate_left
  · simp only [Act.put, sl1, sl2, sl3, i64_w, i32_w]
    rfl
  refine one_ (i := 19) (N := (some 216)) (bz 23 1048575) rfl rfl (one_of HT_.out (by kernel_rfl)) (by decide) (fun K hK => ?_)
  refine goes_ Try.func16 (by kernel_rfl) rfl #[.pointer (some ⟨B.g pw, 0, none⟩)] (by rfl) rfl rfl am ?_
  refine (HC.out _ HQd.out).mono ?_
  rintro e w1 ⟨v1, rfl, hR, hA, hO⟩
  refine ⟨_, rfl, ?_⟩
  have HQ4 := Aside0.mk (HQd.out.deed pw hw2 hA hO)
  have HX4 := Aside0.mk (HXd.out.deed hO (HQd.out.lk pw hw2))
  obtain ⟨Ao, co, eo, hco, hCo⟩ := Kd.R_reads hR
  subst eo
  have HCO := Aside0.mk hCo
  refine hK.out _ _ ⟨HQ4.out.X, HQ4.out.L, HQ4.out.Y, HQ4.out.S, HQ4.out.T, HX4.out.D⟩ (fun hHeld => ?_)
  clear hK K
  refine norm_ (a' := ?_) ?_ ?_
  rotate_left
  · show Act.put _ (some 216) _ = _
    simp only [Act.put, sl1, sl2, sl3, i64_w, i32_w]
    rfl
  refine one_ (i := 20) (N := (some 217)) (bz 23 2097151) rfl rfl (one_of HT_.out (by kernel_rfl)) (by decide) (fun K hK => ?_)
  refine Kd.R_append_rows_step kF (Rr := kF.K w1) (w0 := w) w.heap.size (by rfl) (.tmp 208) (.tmp 216) 30 46 (.agg #[.int .i64 0, .int .i64 0, .int .i64 0, .int .i64 0, .string ⟨#[]⟩]) 48 rfl Try.underlying30 infoF rfl (by decide) (by omega) (B.wv po) (x.way po) (x.l pw).outs.2 Ao (x.l pw).outs.2.length co (fun _ => True) (fun _ => False) rfl rfl ?aO ?aR (fun _ _ h => kF_KM h) (fun _ h => h.elim) ?aF ?aB ?aS ?aL ?_
  case aR => exact HCO.out
  case aF => exact (fun _ _ => trivial)
  case aO => exact HQ4.out.y po ho2
  case aB => exact HQ4.out.two.Bl
  case aS => exact HQ4.out.two.Bl.size
  case aL => have h1_ := hx.out.way po ho2; have h2_ := (x.l pw).outs_len; omega
  intro v2 w6 ho hb hg hat
  obtain ⟨Av, cv, ev⟩ := Kd.R_slice ho
  obtain ⟨nv, hnv⟩ : ∃ nv, (x.way po ++ (x.l pw).outs.2).length = nv := ⟨_, rfl⟩
  rw [hnv] at ev
  subst ev
  obtain ⟨hsl, hsf⟩ := slot_at HQ4.out.Y hg (Kd.R_ne (HQ4.out.y po ho2) HQ4.out.Y (by decide)) ho2
  have HXF := Aside0.mk (fun v => (HX4.out.grown (HQ4.out.y po ho2) hg (by decide)).put (blk_grown HQ4.out.Y hg (Kd.R_ne (HQ4.out.y po ho2) HQ4.out.Y (by decide))) (by decide) po v)
  have HSF := Aside0.mk (HQ4.out.way_grew po ho2 ho (Only.rowOf hg) (hat_of hat))
  clear hnv
  refine hK.out _ _ ((PairS.of HQ4.out HX4.out.D).row (HQ4.out.y po ho2) hg (.inr rfl)).cast (fun hHeld => ?_)
  clear hK K
  refine norm_ (a' := ?_) ?_ ?_
  rotate_left
  · show Act.put _ (some 217) _ = _
    simp only [Act.put, sl1, sl2, sl3, i64_w, i32_w]
    rfl
  refine pu_ 21 (some 218) (bz 23 4194303) HT_.out ?_
  refine last_ (i := 22) (N := none) (bz 23 8388607) rfl rfl (one_of HT_.out (by kernel_rfl)) (by decide) (fun K hK => ?_)
  refine skip_ (w1 := ?_) (by rfl) rfl ?_ ?_
  rotate_left
  · go_simp
    rfl
  refine hK.out _ _ ?_
  clear hK K
  refine done_ (done_of HT_.out (by kernel_rfl)) ?_
  clear HT_ HW_
  go_wp2
  go_ret
  exact turnPost (HE.out.trans (show x.outM pw = { x with l := upd x.l pw (x.l pw).outs.1, way := upd x.way po (x.way po ++ (x.l pw).outs.2) } by unfold PaM.outM; rw [HPO.out])) HSF.out ⟨rfl, rfl, rfl, rfl, rfl, rfl⟩ (HXF.out _)
set_option maxHeartbeats 16000000 in
set_option maxRecDepth 100000 in
theorem turn_none (w W : World) (B : PB) (x : PaM) (f0 f1 f2 : Int) (f3 : ByteArray) (i0 : inB f0 = true) (i1 : inB f1 = true) (i2 : inB f2 = true) (H : Aside0 (PairIs w W B x)) (hx : Aside0 x.Ok) (Y : PaM) (HY : Aside0 (x.turn ⟨f0, f1, f2, f3⟩ = Y)) (hk : 3 ≤ pickN f0 6) (hn : x.way (pickN f1 2) = []) :
    Calls Try.prog 11 #[.pointer (some ⟨B.gx, 0, none⟩), .agg #[.int .i64 f0, .int .i64 f1, .int .i64 f2, .string f3]] W (TurnPost w W B Y) := by
  obtain ⟨pw, hpw⟩ : ∃ pw, pickN f1 2 = pw := ⟨_, rfl⟩
  obtain ⟨kd, hkd⟩ : ∃ kd, pickN f0 6 = kd := ⟨_, rfl⟩
  have hw2 : pw < 2 := by rw [← hpw]; exact pickN_lt f1 2 (by decide)
  have hk6 : kd < 6 := by rw [← hkd]; exact pickN_lt f0 6 (by decide)
  obtain ⟨po, hpo⟩ : ∃ po, 1 - pw = po := ⟨_, rfl⟩
  have ho2 : po < 2 := by omega
  have HPO := Aside0.mk hpo
  have HP1 := Aside0.mk (fun W => pick_calls f1 2 W i1 (by decide) (by decide))
  have HP0 := Aside0.mk (fun W => pick_calls f0 6 W i0 (by decide) (by decide))
  simp only [hpw] at HP1
  simp only [hkd] at HP0
  have HKD := Aside0.mk hkd
  have HPW := Aside0.mk hpw
  have hpoI : (1 : Int) - (pw : Int) = (po : Int) := by omega
  rw [hkd] at hk
  rw [hpw] at hn
  have hk0 : ((kd : Int) == 0) = false := beq_eq_false_iff_ne.mpr (by omega)
  have hk1 : ((kd : Int) == 1) = false := beq_eq_false_iff_ne.mpr (by omega)
  have hk2 : ((kd : Int) == 2) = false := beq_eq_false_iff_ne.mpr (by omega)
  have HE : Aside0 (Y = x) := ⟨by rw [← HY.out]; unfold PaM.turn; dsimp only; rw [hkd, hpw, if_neg (by omega), if_neg (by omega), if_neg (by omega), if_pos hn]⟩
  have HX0 : Aside0 (KeepB W W.heap.size #[.int .i64 f0, .int .i64 f1, .int .i64 f2, .string f3] (W.alloc (.cells #[.int .i64 f0, .int .i64 f1, .int .i64 f2, .string f3] 28))) := ⟨⟨heap_alloc_new W (.cells #[.int .i64 f0, .int .i64 f1, .int .i64 f2, .string f3] 28), fun _ _ e => blk_alloc e _⟩⟩
  have HQ0 := Aside0.mk (H.out.alloc (.cells #[.int .i64 f0, .int .i64 f1, .int .i64 f2, .string f3] 28))
  obtain ⟨b3, hb3⟩ : ∃ b3, W.heap.size = b3 := ⟨_, rfl⟩
  rw [hb3] at HX0
  clear hpw hkd hpo i0 i1
  go_enter Try.func11, Try.ntmps11
  go_wp2_with (go_at_call 14; refine (HP1.out _).mono ?_)
  rintro e W1 ⟨rfl, m1, rfl⟩
  try rw [hb3]
  clear hb3
  have HX1 := Aside0.mk (HX0.out.drewN m1)
  have HQ1 := Aside0.mk (HQ0.out.drewN m1)
  generalize (W.alloc (.cells #[.int .i64 f0, .int .i64 f1, .int .i64 f2, .string f3] 28)).drewN m1 = W1 at HX1 HQ1 ⊢
  clear HX0 HQ0 HP1
  obtain ⟨z0, z1, z2, z3, _, _, _, _⟩ := bx4 HX1.out.D
  go_wp2_with (go_at_call 14; refine (HP0.out _).mono ?_)
  rintro e W2 ⟨rfl, m2, rfl⟩
  have HX2 := Aside0.mk (HX1.out.drewN m2)
  have HQ2 := Aside0.mk (HQ1.out.drewN m2)
  generalize W1.drewN m2 = W2 at HX2 HQ2 ⊢
  clear HX1 HQ1 HP0 z0 z1 z2 z3
  obtain ⟨x0, x1, x2, x3, _, _, _, _⟩ := bx4 HQ2.out.X
  have hpI : (pw : Int) < 2 := by omega
  have hpI0 : (0 : Int) ≤ (pw : Int) := by omega
  have hoI : (po : Int) < 2 := by omega
  have hoI0 : (0 : Int) ≤ (po : Int) := by omega
  obtain ⟨Aw, cw, ew, hcw, _⟩ := Kd.R_reads (HQ2.out.y pw hw2)
  have y0 := HQ2.out.at_w pw hw2
  rw [ew] at y0
  rw [hn] at y0
  have y0a : W2.cell? ⟨B.gw, pw, none⟩ = some (.slice Aw 0 cw) := y0
  clear y0 ew hcw hn
  go_wp2
  go_ret
  exact turnPost HE.out HQ2.out (SameB.refl B) HX2.out
set_option maxHeartbeats 16000000 in
set_option maxRecDepth 100000 in
theorem turn_lost (w W : World) (B : PB) (x : PaM) (f0 f1 f2 : Int) (f3 : ByteArray) (i0 : inB f0 = true) (i1 : inB f1 = true) (i2 : inB f2 = true) (H : Aside0 (PairIs w W B x)) (hx : Aside0 x.Ok) (Y : PaM) (HY : Aside0 (x.turn ⟨f0, f1, f2, f3⟩ = Y)) (hk : pickN f0 6 = 4) (hn : x.way (pickN f1 2) ≠ []) :
    Calls Try.prog 11 #[.pointer (some ⟨B.gx, 0, none⟩), .agg #[.int .i64 f0, .int .i64 f1, .int .i64 f2, .string f3]] W (TurnPost w W B Y) := by
  obtain ⟨pw, hpw⟩ : ∃ pw, pickN f1 2 = pw := ⟨_, rfl⟩
  obtain ⟨kd, hkd⟩ : ∃ kd, pickN f0 6 = kd := ⟨_, rfl⟩
  have hw2 : pw < 2 := by rw [← hpw]; exact pickN_lt f1 2 (by decide)
  have hk6 : kd < 6 := by rw [← hkd]; exact pickN_lt f0 6 (by decide)
  obtain ⟨po, hpo⟩ : ∃ po, 1 - pw = po := ⟨_, rfl⟩
  have ho2 : po < 2 := by omega
  have HPO := Aside0.mk hpo
  have HP1 := Aside0.mk (fun W => pick_calls f1 2 W i1 (by decide) (by decide))
  have HP0 := Aside0.mk (fun W => pick_calls f0 6 W i0 (by decide) (by decide))
  have HP0b := Aside0.mk (fun W => pick_calls f0 6 W i0 (by decide) (by decide))
  simp only [hpw] at HP1
  simp only [hkd] at HP0 HP0b
  have HKD := Aside0.mk hkd
  have HPW := Aside0.mk hpw
  have hpoI : (1 : Int) - (pw : Int) = (po : Int) := by omega
  rw [hkd] at hk
  rw [hpw] at hn
  obtain ⟨n, hnn⟩ : ∃ n, (x.way pw).length = n := ⟨_, rfl⟩
  have hn0 : 0 < n := by rw [← hnn]; exact List.length_pos_iff.mpr hn
  have hn1 : n ≤ 100000 := by rw [← hnn]; exact hx.out.way pw hw2
  obtain ⟨pi, hpi⟩ : ∃ pi, pickN f2 n = pi := ⟨_, rfl⟩
  have hpn : pi < n := by rw [← hpi]; exact pickN_lt f2 n hn0
  have HP2 := Aside0.mk (fun W => pick_calls f2 n W i2 hn0 (by omega))
  simp only [hpi] at HP2
  have HNN := Aside0.mk hnn
  have HE : Aside0 (Y = x.come pw 4 pi) := ⟨by rw [← HY.out]; unfold PaM.turn; dsimp only; rw [hkd, hpw, if_neg (by omega), if_neg (by omega), if_neg (by omega), if_neg hn, hnn, hpi, hk]⟩
  obtain ⟨⟨a0, a1, a2, a3, a4⟩, hfr⟩ : ∃ fr, x.frame pw pi = fr := ⟨_, rfl⟩
  have HFR := Aside0.mk hfr
  have hf0 : -9223372036854775808 ≤ a0 := by
    have h1 := hx.out.f0 pw hw2 _ (getD_mem (x.way pw) pi z46 (by rw [hnn]; exact hpn))
    have h2 : (x.way pw).getD pi z46 = ⟨a0, a1, a2, a3, a4⟩ := hfr
    rw [h2] at h1
    exact h1
  have hp1 : ((n : Int) == 0) = false := beq_eq_false_iff_ne.mpr (by omega)
  clear hnn hpi hfr i2
  have hk0 : ((kd : Int) == 0) = false := beq_eq_false_iff_ne.mpr (by omega)
  have hk1 : ((kd : Int) == 1) = false := beq_eq_false_iff_ne.mpr (by omega)
  have hk2 : ((kd : Int) == 2) = false := beq_eq_false_iff_ne.mpr (by omega)
  have hk5 : ((kd : Int) != 5) = true := bne_iff_ne.mpr (by omega)
  have hk4 : ((kd : Int) == 4) = true := beq_iff_eq.mpr (by omega)
  have HK := Aside0.mk hk
  clear hk
  have HX0 : Aside0 (KeepB W W.heap.size #[.int .i64 f0, .int .i64 f1, .int .i64 f2, .string f3] (W.alloc (.cells #[.int .i64 f0, .int .i64 f1, .int .i64 f2, .string f3] 28))) := ⟨⟨heap_alloc_new W (.cells #[.int .i64 f0, .int .i64 f1, .int .i64 f2, .string f3] 28), fun _ _ e => blk_alloc e _⟩⟩
  have HQ0 := Aside0.mk (H.out.alloc (.cells #[.int .i64 f0, .int .i64 f1, .int .i64 f2, .string f3] 28))
  obtain ⟨b3, hb3⟩ : ∃ b3, W.heap.size = b3 := ⟨_, rfl⟩
  rw [hb3] at HX0
  clear hpw hkd hpo i0 i1
  go_enter Try.func11, Try.ntmps11
  go_wp2_with (go_at_call 14; refine (HP1.out _).mono ?_)
  rintro e W1 ⟨rfl, m1, rfl⟩
  try rw [hb3]
  clear hb3
  have HX1 := Aside0.mk (HX0.out.drewN m1)
  have HQ1 := Aside0.mk (HQ0.out.drewN m1)
  generalize (W.alloc (.cells #[.int .i64 f0, .int .i64 f1, .int .i64 f2, .string f3] 28)).drewN m1 = W1 at HX1 HQ1 ⊢
  clear HX0 HQ0 HP1
  obtain ⟨z0, z1, z2, z3, _, _, _, _⟩ := bx4 HX1.out.D
  go_wp2_with (go_at_call 14; refine (HP0.out _).mono ?_)
  rintro e W2 ⟨rfl, m2, rfl⟩
  have HX2 := Aside0.mk (HX1.out.drewN m2)
  have HQ2 := Aside0.mk (HQ1.out.drewN m2)
  generalize W1.drewN m2 = W2 at HX2 HQ2 ⊢
  clear HX1 HQ1 HP0 z0 z1 z2 z3
  have hpI : (pw : Int) < 2 := by omega
  have hpI0 : (0 : Int) ≤ (pw : Int) := by omega
  have hoI : (po : Int) < 2 := by omega
  have hoI0 : (0 : Int) ≤ (po : Int) := by omega
  have hqI : (pi : Int) < (n : Int) := by omega
  have hqI0 : (0 : Int) ≤ (pi : Int) := by omega
  obtain ⟨gr, cw, ew, _, hgr, _⟩ := Kd.R_form (HQ2.out.y pw hw2) (by rw [HNN.out]; exact hn0)
  rw [HNN.out] at ew
  have HEW := Aside0.mk ew
  have hcw : n ≤ cw := by
    have h1 := HQ2.out.y pw hw2
    rw [ew] at h1
    exact (Kd.R_reads' h1).2.1
  have HYW : Aside0 (∀ W, PairIs w W B x → W.cell? ⟨B.gw, pw, none⟩ = some (.slice (some ⟨gr, 0, none⟩) n cw)) := ⟨fun W h => by rw [h.at_w pw hw2, HEW.out]⟩
  have HYR : Aside0 (∀ W, PairIs w W B x → kF.R 46 W w.heap.size (fun _ => True) (.slice (some ⟨gr, 0, none⟩) n cw) (x.way pw)) := ⟨fun W h => by have := h.y pw hw2; rw [HEW.out] at this; exact this⟩
  clear ew
  have y0 := HYW.out _ HQ2.out
  obtain ⟨x0, x1, x2, x3, _, _, _, _⟩ := bx4 HQ2.out.X
  obtain ⟨d0, d1, d2, d3, _, _, _, _⟩ := bx4 HX2.out.D
  have HPq : Aside0 (∀ a, _) := ⟨fun a => HP2.out (W2.drewN a)⟩
  clear hn
  go_wp2
  go_quiet (first | (go_at_call 14; with_reducible exact Calls.quiet_of (HPq.out _)) | fail)
  have HX3 := Aside0.mk (HX2.out.drewN nq)
  have HQ3 := Aside0.mk (HQ2.out.drewN nq)
  generalize W2.drewN nq = W3 at HX3 HQ3 ⊢
  clear HX2 HQ2 HPq y0 x0 x1 x2 x3 d0 d1 d2 d3 hgr HP2
  have y0 := HYW.out _ HQ3.out
  obtain ⟨x0, x1, x2, x3, _, _, _, _⟩ := bx4 HQ3.out.X
  obtain ⟨d0, d1, d2, d3, _, _, _, _⟩ := bx4 HX3.out.D
  obtain ⟨q0, q1, q2, q3, q4⟩ := rowF_at (HYR.out _ HQ3.out) pi (by rw [HNN.out]; exact hpn)
  have hfr2 : (x.way pw).getD pi z46 = ⟨a0, a1, a2, a3, a4⟩ := HFR.out
  rw [hfr2] at q0 q1 q2 q3 q4
  dsimp only at q0 q1 q2 q3 q4
  clear hfr2
  have HF4 := Aside0.mk (heap_alloc_new W3 (.cells #[.int .i64 a0, .int .i64 a1, .int .i64 a2, .int .i64 a3, .string a4] 46))
  have HX4 := Aside0.mk (HX3.out.alloc (.cells #[.int .i64 a0, .int .i64 a1, .int .i64 a2, .int .i64 a3, .string a4] 46))
  have HQ4 := Aside0.mk (HQ3.out.alloc (.cells #[.int .i64 a0, .int .i64 a1, .int .i64 a2, .int .i64 a3, .string a4] 46))
  have hb3l := blk_lt HX3.out.D
  go_wp2_with (go_at_call 14; refine (HP0b.out _).mono ?_)
  rintro e W5 ⟨rfl, m5, rfl⟩
  have HWL : Aside0 (∀ j, (B.wv pw).ownBlock = some j → j ≠ W3.heap.size) := ⟨fun j hj => Nat.ne_of_lt (Kd.R_lt (HQ3.out.y pw hw2) j hj)⟩
  have HF5 := Aside0.mk (blk_drewN HF4.out m5)
  have HX5 := Aside0.mk (HX4.out.drewN m5)
  have HQ5 := Aside0.mk (HQ4.out.drewN m5)
  generalize (W3.alloc (.cells #[.int .i64 a0, .int .i64 a1, .int .i64 a2, .int .i64 a3, .string a4] 46)).drewN m5 = W5 at HF5 HX5 HQ5 ⊢
  generalize W3.heap.size = bf at HF5 HWL ⊢
  clear HF4 HX4 HQ4 HX3 HQ3 hb3l y0 x0 x1 x2 x3 d0 d1 d2 d3 q0 q1 q2 q3 q4
  have HLT := Aside0.mk (show ((x.way pw).take pi).length = pi by rw [List.length_take, HNN.out]; omega)
  have HCT : Aside0 (∀ W, PairIs w W B x → kF.C W (some ⟨gr, 0, none⟩) pi ((x.way pw).take pi)) := ⟨fun W h => by
    have h1 := (Kd.R_reads' (HYR.out W h)).2.2
    have h2 := Kd.C_take (m := pi) h1 (by rw [HNN.out]; omega)
    rw [HLT.out] at h2
    exact h2⟩
  obtain ⟨A', hA'⟩ : ∃ A', (if cw = pi + 1 then some (⟨gr, 0, none⟩ : Addr) else (some (⟨gr, 0, none⟩ : Addr)).map (·.add ((pi + 1) * 5))) = A' := ⟨_, rfl⟩
  have HLD := Aside0.mk (show ((x.way pw).drop (pi + 1)).length = n - (pi + 1) by rw [List.length_drop, HNN.out])
  have HCD : Aside0 (∀ W, PairIs w W B x → kF.C W A' (n - (pi + 1)) ((x.way pw).drop (pi + 1))) := ⟨fun W h => by
    have h1 := (Kd.R_reads' (HYR.out W h)).2.2
    have h2 := Kd.C_drop (m := pi + 1) (c := cw) h1 (by rw [HNN.out]; omega) (by rw [HNN.out]; exact hcw)
    have e3 : kF.sz = 5 := rfl
    rw [HLD.out, e3, hA'] at h2
    exact h2⟩
  have hcutA : ∀ W : World, (Instr.slice 30 (.slice (some ⟨gr, 0, none⟩) n cw) none (some (.int .i64 (pi : Int))) none).run Try.prog W = .ok (.slice (some ⟨gr, 0, none⟩) pi cw) W := by
    obtain ⟨i, hi, hii⟩ := Option.map_eq_some_iff.1 infoF
    exact cut_to (P := Try.prog) 30 46 .i64 Try.underlying30 hi (some ⟨gr, 0, none⟩) n cw (pi : Int) (by omega) (by omega) hcw
  have hcutB : ∀ W : World, (Instr.slice 30 (.slice (some ⟨gr, 0, none⟩) n cw) (some (.int .i64 ((pi : Int) + 1))) none none).run Try.prog W = .ok (.slice A' (n - (pi + 1)) (cw - (pi + 1))) W := by
    obtain ⟨i, hi, hii⟩ := Option.map_eq_some_iff.1 infoF
    simp only [Prod.mk.injEq] at hii
    have := cut_from (P := Try.prog) 30 46 .i64 Try.underlying30 hi 5 hii.2.1 (some ⟨gr, 0, none⟩) n cw ((pi : Int) + 1) (by omega) (by omega)
    rw [show ((pi : Int) + 1).toNat = pi + 1 by omega, hA'] at this
    exact this
  have hcutC : ∀ W : World, (Instr.slice 30 (.slice (some ⟨gr, 0, none⟩) n cw) (some (.int .i64 (wrap64 ((pi : Int) + 1)))) none none).run Try.prog W = .ok (.slice A' (n - (pi + 1)) (cw - (pi + 1))) W := by
    rw [show wrap64 ((pi : Int) + 1) = (pi : Int) + 1 by unfold wrap64; omega]
    exact hcutB
  clear hA'
  go_wp2
  have HQd := Aside0.mk HQ5.out.drew
  have HXd := Aside0.mk (HX5.out.drew)
  have HFd := Aside0.mk (blk_drew HF5.out)
  refine start_ (n := 28) (S := fun W => PairS W B b3 #[.int .i64 f0, .int .i64 f1, .int .i64 f2, .string f3]) (ds := [27]) (bz 28 0) (by kernel_rfl) rfl rfl (PairS.of HQd.out HXd.out.D) (fun hHeld => ?_); refine with_tabW tuR.tab9 tuR.bits9 (fun HT_ HW_ => ?_)
  generalize W5.drew = W6 at hHeld HQd HXd HFd ⊢
  refine pu_ 0 (some 54) (bz 28 1) HT_.out ?_
  refine pu_ 1 (some 55) (bz 28 3) HT_.out ?_
  refine pu_ 2 (some 56) (bz 28 7) HT_.out ?_
  refine pu_ 4 (some 58) (bz 28 23) HT_.out ?_
  refine pu_ 5 (some 59) (bz 28 55) HT_.out ?_
  refine pu_ 6 (some 60) (bz 28 119) HT_.out ?_
  refine pu_ 7 (some 61) (bz 28 247) HT_.out ?_
  refine pu_ 9 (some 63) (bz 28 759) HT_.out ?_
  refine pu_ 12 (some 66) (bz 28 4855) HT_.out ?_
  refine pu_ 15 (some 69) (bz 28 37623) HT_.out ?_
  refine pu_ 16 (some 70) (bz 28 103159) HT_.out ?_
  refine pu_ 17 (some 71) (bz 28 234231) HT_.out ?_
  refine pu_ 19 (some 73) (bz 28 758519) HT_.out ?_
  refine pu_ 22 (some 76) (bz 28 4952823) HT_.out ?_
  refine pu_ 23 (some 77) (bz 28 13341431) HT_.out ?_
  refine take_ (i := 3) (N := (some 57)) (v := ?_) (a' := ?_) (bz 28 13341439) rfl rfl (take_ofW HT_.out HW_.out (by kernel_rfl)) (fun _ _ _ h => h) (Or.inl ⟨by rfl, ?_⟩) hHeld ?_ ?_
  rotate_left
  · rintro w' s0
    obtain ⟨x0, x1, x2, x3, _, _, _, _⟩ := bx4 s0.X
    go_simp
    with_reducible rfl
  rotate_left
  · simp only [Act.put, sl1, sl2, sl3, i64_w, i32_w]
    rfl
  refine take_ (i := 8) (N := (some 62)) (v := ?_) (a' := ?_) (bz 28 13341695) rfl rfl (take_ofW HT_.out HW_.out (by kernel_rfl)) (fun _ _ _ h => h) (Or.inl ⟨by rfl, ?_⟩) hHeld ?_ ?_
  rotate_left
  · rintro w' s0
    obtain ⟨x0, x1, x2, x3, _, _, _, _⟩ := bx4 s0.X
    go_simp
    with_reducible rfl
  rotate_left
  · simp only [Act.put, sl1, sl2, sl3, i64_w, i32_w]
    rfl
  refine pu_ 10 (some 64) (bz 28 13342719) HT_.out ?_
  refine take_ (i := 11) (N := (some 65)) (v := ?_) (a' := ?_) (bz 28 13344767) rfl rfl (take_ofW HT_.out HW_.out (by kernel_rfl)) (fun _ _ _ h => h) (Or.inl ⟨by rfl, ?_⟩) hHeld ?_ ?_
  rotate_left
  · rintro w' s0
    have y0 : w'.cell? ⟨B.gw, pw, none⟩ = some (.slice (some ⟨gr, 0, none⟩) n cw) := by rw [s0.at_w pw hw2, HEW.out]
    go_simp
    with_reducible rfl
  rotate_left
  · simp only [Act.put, sl1, sl2, sl3, i64_w, i32_w]
    rfl
  refine pu_ 13 (some 67) (bz 28 13352959) HT_.out ?_
  refine take_ (i := 18) (N := (some 72)) (v := ?_) (a' := ?_) (bz 28 13615103) rfl rfl (take_ofW HT_.out HW_.out (by kernel_rfl)) (fun _ _ _ h => h) (Or.inl ⟨by rfl, ?_⟩) hHeld ?_ ?_
  rotate_left
  · rintro w' s0
    obtain ⟨x0, x1, x2, x3, _, _, _, _⟩ := bx4 s0.X
    go_simp
    with_reducible rfl
  rotate_left
  · simp only [Act.put, sl1, sl2, sl3, i64_w, i32_w]
    rfl
  refine pu_ 20 (some 74) (bz 28 14663679) HT_.out ?_
  refine take_ (i := 21) (N := (some 75)) (v := ?_) (a' := ?_) (bz 28 16760831) rfl rfl (take_ofW HT_.out HW_.out (by kernel_rfl)) (fun _ _ _ h => h) (Or.inl ⟨by rfl, ?_⟩) hHeld ?_ ?_
  rotate_left
  · rintro w' s0
    have y0 : w'.cell? ⟨B.gw, pw, none⟩ = some (.slice (some ⟨gr, 0, none⟩) n cw) := by rw [s0.at_w pw hw2, HEW.out]
    go_simp
    with_reducible rfl
  rotate_left
  · simp only [Act.put, sl1, sl2, sl3, i64_w, i32_w]
    rfl
  refine pu_ 24 (some 78) (bz 28 33538047) HT_.out ?_
  refine one_ (i := 14) (N := (some 68)) (bz 28 33554431) rfl rfl (one_of HT_.out (by kernel_rfl)) (by decide) (fun K hK => ?_)
  refine Kd.R_append_rows_step kF (Rr := kF.K W6) (w0 := w) w.heap.size (by rfl) (.const (.slice none 0 0)) (.tmp 67) 30 46 (.agg #[.int .i64 0, .int .i64 0, .int .i64 0, .int .i64 0, .string ⟨#[]⟩]) 48 rfl Try.underlying30 infoF rfl (by decide) (by omega) (.slice none 0 0) ([] : List FrT) ((x.way pw).take pi) (some ⟨gr, 0, none⟩) (pi) (cw) (fun _ => True) (fun _ => False) rfl rfl ?aO ?aR (fun _ _ h => kF_KM h) (fun _ h => h.elim) ?aF ?aB ?aS ?aL ?_
  case aR => exact HCT.out _ HQd.out
  case aF => exact (fun _ _ => trivial)
  case aO => exact Kd.R_nil _ _ _ _ _
  case aB => exact HQd.out.two.Bl
  case aS => exact HQd.out.two.Bl.size
  case aL => first | (simp only [List.length_nil]; omega) | omega
  intro v4 w4 ho hb hg hat
  try rw [List.nil_append] at ho
  obtain ⟨A4, c4, e4⟩ := Kd.R_slice ho
  rw [HLT.out] at e4
  subst e4
  have HR4 := Aside0.mk ho
  have HO4 : Aside0 (Only W6 w4 (fun _ => False)) := ⟨Only.none_ hg⟩
  have HA4 := Aside0.mk (fresh_of hat)
  have HQ4_ := Aside0.mk (HQd.out.below (HO4.out.below (Nat.le_refl _) (fun _ h => h.elim)))
  refine hK.out _ _ (hHeld.none_ hg) (fun hHeld => ?_)
  clear hK K
  refine norm_ (a' := ?_) ?_ ?_
  rotate_left
  · show Act.put _ (some 68) _ = _
    simp only [Act.put, sl1, sl2, sl3, i64_w, i32_w]
    rfl
  refine one_ (i := 25) (N := (some 79)) (bz 28 67108863) rfl rfl (one_of HT_.out (by kernel_rfl)) (by decide) (fun K hK => ?_)
  refine Kd.R_append_rows_step kF (Rr := kF.K w4) (w0 := w) w.heap.size (by rfl) (.tmp 68) (.tmp 78) 30 46 (.agg #[.int .i64 0, .int .i64 0, .int .i64 0, .int .i64 0, .string ⟨#[]⟩]) 48 rfl Try.underlying30 infoF rfl (by decide) (by omega) (.slice A4 pi c4) ((x.way pw).take pi) ((x.way pw).drop (pi + 1)) (A') (n - (pi + 1)) (cw - (pi + 1)) (fun _ => True) (fun _ => False) rfl rfl ?aO ?aR (fun _ _ h => kF_KM h) (fun _ h => h.elim) ?aF ?aB ?aS ?aL ?_
  case aR => exact HCD.out _ HQ4_.out
  case aF => exact (fun _ _ => trivial)
  case aO => exact HR4.out
  case aB => exact HQ4_.out.two.Bl
  case aS => exact HQ4_.out.two.Bl.size
  case aL => rw [HLT.out]; omega
  intro v6 w6 ho hb hg hat
  have HO6 : Aside0 (Only W6 w6 (fun _ => False)) := ⟨HO4.out.then_ (Only.rowOf hg) (fun i hi => .inr (HA4.out i hi))⟩
  have HA6 := Aside0.mk (fun j hj => (hat_of hat j hj).elim (HA4.out j) (Nat.le_trans HO4.out.size))
  obtain ⟨A6, c6, e6⟩ := Kd.R_slice ho
  obtain ⟨nv, hnv⟩ : ∃ nv, ((x.way pw).take pi ++ (x.way pw).drop (pi + 1)).length = nv := ⟨_, rfl⟩
  rw [hnv] at e6
  subst e6
  have HSF := Aside0.mk (HQd.out.way_grew pw hw2 ho (HO6.out.mono (fun _ _ h => h.elim)) (fun j hj => .inr (HA6.out j hj)))
  have hY6 := HO6.out.blk HQd.out.Y (fun h => h)
  have hsl : w6.cell? ⟨B.gw, pw, none⟩ = some (B.wv pw) := by rcases two01 hw2 with rfl | rfl <;> exact blk_cell hY6 _
  have hsf := blk_frozen hY6 pw
  clear hnv
  refine hK.out _ _ ((PairS.of HQd.out HXd.out.D).only HO6.out (fun _ h => h)) (fun hHeld => ?_)
  clear hK K
  refine norm_ (a' := ?_) ?_ ?_
  rotate_left
  · show Act.put _ (some 79) _ = _
    simp only [Act.put, sl1, sl2, sl3, i64_w, i32_w]
    rfl
  refine pu_ 26 (some 80) (bz 28 134217727) HT_.out ?_
  refine last_ (i := 27) (N := none) (bz 28 268435455) rfl rfl (one_of HT_.out (by kernel_rfl)) (by decide) (fun K hK => ?_)
  refine skip_ (w1 := ?_) (by rfl) rfl ?_ ?_
  rotate_left
  · go_simp
    rfl
  refine hK.out _ _ ?_
  clear hK K
  refine done_ (done_of HT_.out (by kernel_rfl)) ?_
  have HX7 := Aside0.mk ((HXd.out.only HO6.out).put hY6 (by decide) pw (.slice A6 nv c6))
  have HF7 := Aside0.mk (blk_far (p := ⟨B.gw, pw, none⟩) (HO6.out.blk HFd.out (fun h => h)) (blk_ne HFd.out HQd.out.Y (by decide)) (.slice A6 nv c6))
  have HQ7 := HSF
  generalize w6.setCell ⟨B.gw, pw, none⟩ (.slice A6 nv c6) = W7 at HX7 HF7 HQ7 ⊢
  have HXM : Aside0 (x.gone pw 4 pi = { x with way := upd x.way pw ((x.way pw).take pi ++ (x.way pw).drop (pi + 1)) }) := ⟨by unfold PaM.gone; exact if_neg (by decide)⟩
  clear HT_ HW_ hHeld hcutA hcutB hcutC hsl hsf hY6 ho hb hg hat HSF HO6 HA6 HR4 HO4 HA4 HQ4_ HQd HXd HFd
  obtain ⟨d0, d1, d2, d3, _, _, _, _⟩ := bx4 HX7.out.D
  go_wp2_with (go_at_call 14; refine (HP0b.out _).mono ?_)
  rintro e W8 ⟨rfl, m8, rfl⟩
  have HX8 := Aside0.mk (HX7.out.drewN m8)
  have HF8 := Aside0.mk (blk_drewN HF7.out m8)
  have HQ8 := Aside0.mk (HQ7.out.drewN m8)
  generalize W7.drewN m8 = W8 at HX8 HF8 HQ8 ⊢
  clear HX7 HF7 HQ7 d0 d1 d2 d3
  go_wp2
  go_ret
  exact turnPost (HE.out.trans (show x.come pw 4 pi = { x with way := upd x.way pw ((x.way pw).take pi ++ (x.way pw).drop (pi + 1)) } by unfold PaM.come; rw [if_pos rfl, HXM.out])) HQ8.out ⟨rfl, rfl, rfl, rfl, rfl, rfl⟩ HX8.out

end Go.Proofs.Ytdpogggajdfedaa.P
