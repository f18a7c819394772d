import Derived.Test.YtnmcknfkmelnbaaDoorPlainM
import Derived.Outline
import Derived.Laws.BitsAllLaws
import Derived.WalkSpells
import Derived.StillTailTactics
namespace Go.Proofs.YtnmcknfkmelnbaaDoor.P
open Go.RowKit Go.Proofs.YtnmcknfkmelnbaaDoorW.PrintWords Go.Proofs.YtnmcknfkmelnbaaDoorW.PrintLast Go.Proofs.YtnmcknfkmelnbaaDoorW.PrintMore
attribute [local go_sem] max2_int min2_int max_two min_two max_three min_three max_four min_four
set_option linter.unusedVariables false
set_option linter.unusedSimpArgs false
/-- What a call leaves as it was: all but the blocks of S (and what is new since). -/
structure Only (w w' : World) (S : Nat → Prop) : Prop where
  os : w'.os = w.os
  tape : w'.tape = w.tape
  output : w'.output = w.output
  size : w.heap.size ≤ w'.heap.size
  block : ∀ i, i < w.heap.size → ¬ S i → w'.heap[i]? = w.heap[i]?
namespace Only
variable {w w1 w2 : World} {S S' : Nat → Prop} {g : Nat}
theorem refl (w : World) (S : Nat → Prop) : Only w w S := ⟨rfl, rfl, rfl, Nat.le_refl _, fun _ _ _ => rfl⟩
theorem of_below (h : Below w.heap.size w w1) : Only w w1 S := ⟨h.os, h.tape, h.output, h.size, fun i hi _ => h.block i hi⟩
theorem mono (h : Only w w1 S) (hs : ∀ i, i < w.heap.size → S i → S' i) : Only w w1 S' := ⟨h.os, h.tape, h.output, h.size, fun i hi hn => h.block i hi (fun hi2 => hn (hs i hi hi2))⟩
theorem then_ (h : Only w w1 S) (k : Only w1 w2 S') (hs : ∀ i, S' i → S i ∨ w.heap.size ≤ i) : Only w w2 S :=
  ⟨k.os.trans h.os, k.tape.trans h.tape, k.output.trans h.output, Nat.le_trans h.size k.size, fun i hi hn => (k.block i (Nat.lt_of_lt_of_le hi h.size) (fun h2 => (hs i h2).elim hn (fun h3 => by omega))).trans (h.block i hi hn)⟩
theorem trans (h : Only w w1 S) (k : Only w1 w2 S) : Only w w2 S := h.then_ k (fun _ hi => .inl hi)
theorem setS (h : Only w w1 S) {p : Addr} (hp : S p.block ∨ w.heap.size ≤ p.block) (u : Value) : Only w (w1.setCell p u) S :=
  h.then_ (S' := fun k => k = p.block) ⟨rfl, rfl, rfl, by simp [World.setCell], fun i _ hn => Below.heap_setCell w1 p u i hn⟩ (fun k hk => by rw [hk]; exact hp)
theorem set_ (h : Only w w1 (· = g)) (i : Nat) (u : Value) : Only w (w1.setCell ⟨g, i, none⟩ u) (· = g) := h.setS (.inl rfl) u
theorem grown {row : Option Nat} (h : Only w w1 S) (hg : w1.grownBy w2 row) (hr : ∀ k, row = some k → S k ∨ w.heap.size ≤ k) : Only w w2 S :=
  h.then_ (S' := fun k => row = some k) ⟨hg.os, hg.tape, hg.output, hg.size, fun i hi hn => hg.block i hi (fun he => hn he.symm)⟩ hr
theorem below {B : Nat} (h : Only w w1 S) (hB : B ≤ w.heap.size) (hs : ∀ i, S i → B ≤ i) : Below B w w1 :=
  ⟨h.os, h.tape, h.output, h.size, fun i hi => h.block i (Nat.lt_of_lt_of_le hi hB) (fun h2 => by have := hs i h2; omega)⟩
theorem blk (h : Only w w1 S) {i : Nat} {o : Obj} (hb : w.heap[i]? = some o) (hn : ¬ S i) : w1.heap[i]? = some o := (h.block i (blk_lt hb) hn).trans hb
theorem cell (h : Only w w1 S) {a : Addr} {v : Value} (hc : w.cell? a = some v) (hn : ¬ S a.block) : w1.cell? a = some v := by
  have := h.block a.block (World.block_lt_of_cell? w a hc) hn
  simpa [World.cell?, this] using hc
theorem kept (h : Only w w1 S) : Kept w w1 S := ⟨h.size, fun i hi hn => h.block i hi hn⟩
theorem tab (h : Only w w1 S) (hT : TabOk w) (hn : ¬ S 0) : TabOk w1 := ⟨fun i hi => h.cell (hT.siz0 i hi) hn⟩
end Only
theorem ixB (b0 b1 b2 b3 b4 b5 b6 : Bool) (i : Int) (h0 : 0 ≤ i) (h7 : i < 7) (w_ : World) : (Instr.index 66 (.agg #[.bool b0, .bool b1, .bool b2, .bool b3, .bool b4, .bool b5, .bool b6]) (.int .i64 i)).run Tryd.prog w_ = .ok (.bool ([b0, b1, b2, b3, b4, b5, b6].getD i.toNat false)) w_ := by
  have h : i = 0 ∨ i = 1 ∨ i = 2 ∨ i = 3 ∨ i = 4 ∨ i = 5 ∨ i = 6 := by omega
  rcases h with rfl | rfl | rfl | rfl | rfl | rfl | rfl <;> exact run_index_agg (sz := 1) Tryd.underlying66 (by decide) (by go_simp) (by go_simp)
theorem bcnt_take (l : List Bool) (k : Nat) (h : k < l.length) : (l.take (k + 1)).count true = (l.take k).count true + if l.getD k false = true then 1 else 0 := by
  rw [List.take_succ_eq_append_getElem h, List.count_append, List.getD_eq_getElem?_getD, List.getElem?_eq_getElem h]
  cases l[k] <;> simp
theorem bcnt_le (l : List Bool) (k : Nat) : (l.take k).count true ≤ k := Nat.le_trans List.count_le_length (by rw [List.length_take]; omega)
set_option maxHeartbeats 1000000 in
theorem many_calls (b0 b1 b2 b3 b4 b5 b6 : Bool) (w : World) :
    Calls Tryd.prog 33 #[.agg #[.bool b0, .bool b1, .bool b2, .bool b3, .bool b4, .bool b5, .bool b6]] w fun e w' => e = .returned (.int .i64 (bcnt [b0, b1, b2, b3, b4, b5, b6] : Int)) ∧ Below w.heap.size w w' := by
  obtain ⟨l, hl⟩ : ∃ l, [b0, b1, b2, b3, b4, b5, b6] = l := ⟨_, rfl⟩
  have hlen := Aside0.mk (show l.length = 7 by rw [← hl]; rfl)
  have HX := Aside0.mk (fun i h0 h7 w_ => ixB b0 b1 b2 b3 b4 b5 b6 i h0 h7 w_)
  rw [hl] at HX ⊢
  clear hl
  have HB : Below w.heap.size w (w.alloc (.cells #[.bool b0, .bool b1, .bool b2, .bool b3, .bool b4, .bool b5, .bool b6] 66)) := below_alloc (Below.refl _ _) _
  go_enter Tryd.func33, Tryd.ntmps33
  go_wp2
  go_loop [3, 7] (fun v3 v7 => ∃ (k n : Nat), k ≤ 7 ∧ v7 = .int .i64 (k : Int) ∧ v3 = .int .i64 (n : Int) ∧ n ≤ k ∧ Aside0 (n = (l.take k).count true)) (fun _ v7 => 7 - (intOf v7).toNat)
  case atStart => exact ⟨0, 0, by omega, rfl, rfl, by omega, ⟨by simp⟩⟩
  case round =>
    obtain ⟨k, n, hk, rfl, rfl, hn, HN⟩ := hrel
    by_cases hlt : k < 7
    · have hix := fun w_ => HX.out (k : Int) (by omega) (by omega) w_
      rw [show ((k : Int)).toNat = k from rfl] at hix
      have HT := Aside0.mk (bcnt_take l k (by rw [hlen.out]; exact hlt))
      by_cases hb : l.getD k false = true
      · rw [hb] at hix
        have HT2 := Aside0.mk (show n + 1 = (l.take (k + 1)).count true by rw [HT.out, if_pos hb, HN.out])
        clear HT hb HN
        go_wp2
        go_round
        case rel => exact ⟨k + 1, n + 1, by omega, by go_num, by go_num, by omega, HT2⟩
        case measure => simp [intOf]; omega
      · rw [show l.getD k false = false by simpa using hb] at hix
        have HT2 := Aside0.mk (show n = (l.take (k + 1)).count true by rw [HT.out, if_neg hb, HN.out]; rfl)
        clear HT hb HN
        go_wp2
        go_round
        case rel => exact ⟨k + 1, n, by omega, by go_num, rfl, by omega, HT2⟩
        case measure => simp [intOf]; omega
    · obtain rfl : k = 7 := by omega
      go_wp2
      go_ret
      exact ⟨by rw [HN.out, List.take_of_length_le (by rw [hlen.out]; exact Nat.le_refl _)]; rfl, HB⟩
/-- The cells of a proposer. -/
def prCells (p : PrS) : List Value := [.int .i64 p.r, .int .i64 p.n] ++ (p.nodes.map Value.bool ++ (p.prom.map Value.bool ++ (p.cntd.map Value.bool ++ [.int .i64 p.best.a, .int .i64 p.best.b, .int .i64 p.best.c, .int .i64 p.best.d, .string p.best.s, .int .i64 p.st, .string p.val])))
/-- A proposer lies at block g. -/
structure PrIs (w : World) (g : Nat) (p : PrS) : Prop where
  blk : w.heap[g]? = some (.cells (prCells p).toArray 68 (0, 0))
  l1 : p.nodes.length = 7
  l2 : p.prom.length = 7
  l3 : p.cntd.length = 7
theorem list7 {α : Type} {l : List α} (h : l.length = 7) : ∃ a b c d e f g, l = [a, b, c, d, e, f, g] := by
  match l, h with
  | [a, b, c, d, e, f, g], _ => exact ⟨a, b, c, d, e, f, g, rfl⟩
theorem lt7 {k : Nat} (h : k < 7) : k = 0 ∨ k = 1 ∨ k = 2 ∨ k = 3 ∨ k = 4 ∨ k = 5 ∨ k = 6 := by omega
namespace PrIs
variable {w w' : World} {g : Nat} {p : PrS}
theorem low (h : PrIs w g p) : w.cell? ⟨g, 0, none⟩ = some (.int .i64 p.r) ∧ w.cell? ⟨g, 1, none⟩ = some (.int .i64 p.n) := ⟨blk_cell h.blk 0, blk_cell h.blk 1⟩
theorem high (h : PrIs w g p) : w.cell? ⟨g, 23, none⟩ = some (.int .i64 p.best.a) ∧ w.cell? ⟨g, 24, none⟩ = some (.int .i64 p.best.b) ∧ w.cell? ⟨g, 25, none⟩ = some (.int .i64 p.best.c) ∧ w.cell? ⟨g, 26, none⟩ = some (.int .i64 p.best.d) ∧ w.cell? ⟨g, 27, none⟩ = some (.string p.best.s) ∧ w.cell? ⟨g, 28, none⟩ = some (.int .i64 p.st) ∧ w.cell? ⟨g, 29, none⟩ = some (.string p.val) := by
  obtain ⟨hb, h1, h2, h3⟩ := h
  obtain ⟨r, n, N, M, C, best, st, val⟩ := p
  obtain ⟨_, _, _, _, _, _, _, rfl⟩ := list7 h1
  obtain ⟨_, _, _, _, _, _, _, rfl⟩ := list7 h2
  obtain ⟨_, _, _, _, _, _, _, rfl⟩ := list7 h3
  exact ⟨blk_cell hb 23, blk_cell hb 24, blk_cell hb 25, blk_cell hb 26, blk_cell hb 27, blk_cell hb 28, blk_cell hb 29⟩
theorem nodes (h : PrIs w g p) (k : Nat) (hk : k < 7) : w.cell? ⟨g, 2 + k, none⟩ = some (.bool (p.nodes.getD k false)) := by
  obtain ⟨hb, h1, h2, h3⟩ := h
  obtain ⟨r, n, N, M, C, best, st, val⟩ := p
  obtain ⟨_, _, _, _, _, _, _, rfl⟩ := list7 h1
  rcases lt7 hk with rfl | rfl | rfl | rfl | rfl | rfl | rfl <;> exact blk_cell hb _
theorem prom (h : PrIs w g p) (k : Nat) (hk : k < 7) : w.cell? ⟨g, 9 + k, none⟩ = some (.bool (p.prom.getD k false)) := by
  obtain ⟨hb, h1, h2, h3⟩ := h
  obtain ⟨r, n, N, M, C, best, st, val⟩ := p
  obtain ⟨_, _, _, _, _, _, _, rfl⟩ := list7 h1
  obtain ⟨_, _, _, _, _, _, _, rfl⟩ := list7 h2
  rcases lt7 hk with rfl | rfl | rfl | rfl | rfl | rfl | rfl <;> exact blk_cell hb _
theorem cntd (h : PrIs w g p) (k : Nat) (hk : k < 7) : w.cell? ⟨g, 16 + k, none⟩ = some (.bool (p.cntd.getD k false)) := by
  obtain ⟨hb, h1, h2, h3⟩ := h
  obtain ⟨r, n, N, M, C, best, st, val⟩ := p
  obtain ⟨_, _, _, _, _, _, _, rfl⟩ := list7 h1
  obtain ⟨_, _, _, _, _, _, _, rfl⟩ := list7 h2
  obtain ⟨_, _, _, _, _, _, _, rfl⟩ := list7 h3
  rcases lt7 hk with rfl | rfl | rfl | rfl | rfl | rfl | rfl <;> exact blk_cell hb _
theorem frozen (h : PrIs w g p) (i : Nat) : w.frozen? ⟨g, i, none⟩ = false := blk_frozen h.blk i
theorem below (h : PrIs w g p) (hb : Below w.heap.size w w') : PrIs w' g p := ⟨blk_below h.blk hb, h.l1, h.l2, h.l3⟩
theorem only (h : PrIs w g p) {S : Nat → Prop} (hk : Only w w' S) (hne : ¬ S g) : PrIs w' g p := ⟨hk.blk h.blk hne, h.l1, h.l2, h.l3⟩
theorem kept (h : PrIs w g p) {S : Nat → Prop} (hk : Kept w w' S) (hne : ¬ S g) : PrIs w' g p := ⟨blk_kept h.blk hk hne, h.l1, h.l2, h.l3⟩
theorem lt (h : PrIs w g p) : g < w.heap.size := blk_lt h.blk
theorem set_ (h : PrIs w g p) (p' : PrS) (i : Nat) (u : Value) (e : (prCells p).toArray.setIfInBounds i u = (prCells p').toArray) (h1 : p'.nodes.length = 7) (h2 : p'.prom.length = 7) (h3 : p'.cntd.length = 7) : PrIs (w.setCell ⟨g, i, none⟩ u) g p' :=
  ⟨by rw [blk_set h.blk, e], h1, h2, h3⟩
theorem set_nodes (h : PrIs w g p) (k : Nat) (hk : k < 7) (b : Bool) : PrIs (w.setCell ⟨g, 2 + k, none⟩ (.bool b)) g { p with nodes := p.nodes.set k b } := by
  refine h.set_ _ _ _ ?_ (by rw [List.length_set]; exact h.l1) h.l2 h.l3
  obtain ⟨hb, h1, h2, h3⟩ := h
  obtain ⟨r, n, N, M, C, best, st, val⟩ := p
  obtain ⟨_, _, _, _, _, _, _, rfl⟩ := list7 h1
  rcases lt7 hk with rfl | rfl | rfl | rfl | rfl | rfl | rfl <;> simp [prCells]
theorem set_prom (h : PrIs w g p) (k : Nat) (hk : k < 7) (b : Bool) : PrIs (w.setCell ⟨g, 9 + k, none⟩ (.bool b)) g { p with prom := p.prom.set k b } := by
  refine h.set_ _ _ _ ?_ h.l1 (by rw [List.length_set]; exact h.l2) h.l3
  obtain ⟨hb, h1, h2, h3⟩ := h
  obtain ⟨r, n, N, M, C, best, st, val⟩ := p
  obtain ⟨_, _, _, _, _, _, _, rfl⟩ := list7 h1
  obtain ⟨_, _, _, _, _, _, _, rfl⟩ := list7 h2
  rcases lt7 hk with rfl | rfl | rfl | rfl | rfl | rfl | rfl <;> simp [prCells]
theorem set_cntd (h : PrIs w g p) (k : Nat) (hk : k < 7) (b : Bool) : PrIs (w.setCell ⟨g, 16 + k, none⟩ (.bool b)) g { p with cntd := p.cntd.set k b } := by
  refine h.set_ _ _ _ ?_ h.l1 h.l2 (by rw [List.length_set]; exact h.l3)
  obtain ⟨hb, h1, h2, h3⟩ := h
  obtain ⟨r, n, N, M, C, best, st, val⟩ := p
  obtain ⟨_, _, _, _, _, _, _, rfl⟩ := list7 h1
  obtain ⟨_, _, _, _, _, _, _, rfl⟩ := list7 h2
  obtain ⟨_, _, _, _, _, _, _, rfl⟩ := list7 h3
  rcases lt7 hk with rfl | rfl | rfl | rfl | rfl | rfl | rfl <;> simp [prCells]
theorem set_st (h : PrIs w g p) (s : Int) : PrIs (w.setCell ⟨g, 28, none⟩ (.int .i64 s)) g { p with st := s } := by
  refine h.set_ _ _ _ ?_ h.l1 h.l2 h.l3
  obtain ⟨hb, h1, h2, h3⟩ := h
  obtain ⟨r, n, N, M, C, best, st, val⟩ := p
  obtain ⟨_, _, _, _, _, _, _, rfl⟩ := list7 h1
  obtain ⟨_, _, _, _, _, _, _, rfl⟩ := list7 h2
  obtain ⟨_, _, _, _, _, _, _, rfl⟩ := list7 h3
  simp [prCells]
theorem set_val (h : PrIs w g p) (s : ByteArray) : PrIs (w.setCell ⟨g, 29, none⟩ (.string s)) g { p with val := s } := by
  refine h.set_ _ _ _ ?_ h.l1 h.l2 h.l3
  obtain ⟨hb, h1, h2, h3⟩ := h
  obtain ⟨r, n, N, M, C, best, st, val⟩ := p
  obtain ⟨_, _, _, _, _, _, _, rfl⟩ := list7 h1
  obtain ⟨_, _, _, _, _, _, _, rfl⟩ := list7 h2
  obtain ⟨_, _, _, _, _, _, _, rfl⟩ := list7 h3
  simp [prCells]
theorem set_best (h : PrIs w g p) (a : AcS) : PrIs (((((w.setCell ⟨g, 23, none⟩ (.int .i64 a.a)).setCell ⟨g, 24, none⟩ (.int .i64 a.b)).setCell ⟨g, 25, none⟩ (.int .i64 a.c)).setCell ⟨g, 26, none⟩ (.int .i64 a.d)).setCell ⟨g, 27, none⟩ (.string a.s)) g { p with best := a } := by
  obtain ⟨hb, h1, h2, h3⟩ := h
  refine ⟨?_, h1, h2, h3⟩
  rw [blk_set (blk_set (blk_set (blk_set (blk_set hb _ _) _ _) _ _) _ _) _ _]
  obtain ⟨r, n, N, M, C, best, st, val⟩ := p
  obtain ⟨_, _, _, _, _, _, _, rfl⟩ := list7 h1
  obtain ⟨_, _, _, _, _, _, _, rfl⟩ := list7 h2
  obtain ⟨_, _, _, _, _, _, _, rfl⟩ := list7 h3
  simp [prCells]
end PrIs
theorem node_calls (g : Nat) (p : PrS) (k : Int) (w : World) (h : PrIs w g p) :
    Calls Tryd.prog 28 #[.pointer (some ⟨g, 0, none⟩), .int .i64 k] w fun e w' => e = .returned (.bool (bhas p.nodes k)) ∧ w' = w := by
  unfold bhas
  by_cases h0 : 0 ≤ k
  · by_cases h7 : k < 7
    · have hc := h.nodes k.toNat (by omega)
      rw [decide_eq_true (show 0 ≤ k ∧ k < 7 from ⟨h0, h7⟩), Bool.true_and]
      generalize p.nodes.getD k.toNat false = b at hc ⊢
      clear h
      go_enter Tryd.func28, Tryd.ntmps28
      go_wp2
      go_ret
      exact ⟨rfl, rfl⟩
    · rw [decide_eq_false (show ¬ (0 ≤ k ∧ k < 7) from fun hh => h7 hh.2), Bool.false_and]
      clear h
      go_enter Tryd.func28, Tryd.ntmps28
      go_wp2
      go_ret
      exact ⟨rfl, rfl⟩
  · rw [decide_eq_false (show ¬ (0 ≤ k ∧ k < 7) from fun hh => h0 hh.1), Bool.false_and]
    clear h
    go_enter Tryd.func28, Tryd.ntmps28
    go_wp2
    go_ret
    exact ⟨rfl, rfl⟩
theorem state_calls (g : Nat) (p : PrS) (w : World) (h : PrIs w g p) :
    Calls Tryd.prog 20 #[.pointer (some ⟨g, 0, none⟩)] w fun e w' => e = .returned (.int .i64 p.st) ∧ w' = w := by
  obtain ⟨_, _, _, _, _, hc, _⟩ := h.high
  clear h
  go_enter Tryd.func20, Tryd.ntmps20
  go_wp2
  go_ret
  exact ⟨rfl, rfl⟩
theorem value_calls (g : Nat) (p : PrS) (w : World) (h : PrIs w g p) :
    Calls Tryd.prog 21 #[.pointer (some ⟨g, 0, none⟩)] w fun e w' => e = .returned (.string p.val) ∧ w' = w := by
  obtain ⟨_, _, _, _, _, _, hc⟩ := h.high
  clear h
  go_enter Tryd.func21, Tryd.ntmps21
  go_wp2
  go_ret
  exact ⟨rfl, rfl⟩

end Go.Proofs.YtnmcknfkmelnbaaDoor.P
