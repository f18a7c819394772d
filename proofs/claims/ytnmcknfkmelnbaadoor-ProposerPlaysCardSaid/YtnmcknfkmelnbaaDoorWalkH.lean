import Derived.Test.YtnmcknfkmelnbaaDoorWalkG
import Derived.Test.YtnmcknfkmelnbaaDoorPx16
import Derived.Test.YtnmcknfkmelnbaaDoorPx21
import Derived.Outline
import Derived.Laws.BitsAllLaws
import Derived.WalkSpells
import Derived.StillTailTactics
namespace Go.Proofs.YtnmcknfkmelnbaaDoor.P
open Go.RowKit Go.Proofs.YtnmcknfkmelnbaaDoorW.PrintWords Go.Proofs.YtnmcknfkmelnbaaDoorW.PrintLast Go.Proofs.YtnmcknfkmelnbaaDoorW.PrintMore
attribute [local go_sem] max2_int min2_int max_two min_two max_three min_three max_four min_four
set_option linter.unusedVariables false
set_option linter.unusedSimpArgs false
attribute [local go_sem high] eqA23
/-- The number that a raw one speaks of. -/
def pickN (c : Int) (n : Nat) : Nat := ((if c < 0 then -(c + 1) else c) % (n : Int)).toNat
def inB (x : Int) : Bool := decide (-9223372036854775808 ≤ x) && decide (x < 9223372036854775808)
theorem inB_iff (x : Int) : inB x = true ↔ -9223372036854775808 ≤ x ∧ x < 9223372036854775808 := by simp [inB]
theorem pickN_lt (c : Int) (n : Nat) (h : 1 ≤ n) : pickN c n < n := by
  unfold pickN
  have h1 := Int.emod_lt_of_pos (if c < 0 then -(c + 1) else c) (show (0 : Int) < n by omega)
  have h2 := Int.emod_nonneg (if c < 0 then -(c + 1) else c) (show (n : Int) ≠ 0 by omega)
  omega
theorem pick_is (c : Int) (n : Nat) (h : inB c = true) (hn : 1 ≤ n) (hn2 : n < 9223372036854775808) : carillonlaw11_pick.f c (n : Int) = some (pickN c n : Int) := by
  rw [inB_iff] at h
  unfold carillonlaw11_pick.f pickN
  by_cases hc : c < 0
  · rw [if_pos hc, if_neg (by omega), if_pos hc]
    rw [show wrap64 (c + 1) = c + 1 by unfold wrap64; omega, show wrap64 (-(c + 1)) = -(c + 1) by unfold wrap64; omega, Int.tmod_eq_emod_of_nonneg (by omega)]
    have h2 := Int.emod_nonneg (-(c + 1)) (show (n : Int) ≠ 0 by omega)
    rw [Int.toNat_of_nonneg h2]
  · rw [if_neg hc, if_neg (by omega), if_neg hc, Int.tmod_eq_emod_of_nonneg (by omega)]
    have h2 := Int.emod_nonneg c (show (n : Int) ≠ 0 by omega)
    rw [Int.toNat_of_nonneg h2]
theorem pick_calls (c : Int) (n : Nat) (w : World) (h : inB c = true) (hn : 1 ≤ n) (hn2 : n < 9223372036854775808) :
    Calls Tryd.prog 10 #[.int .i64 c, .int .i64 (n : Int)] w fun e w' => e = .returned (.int .i64 (pickN c n : Int)) ∧ ∃ m, w' = w.drewN m :=
  (carillonlaw11_pick.calls c n _ w (pick_is c n h hn hn2)).mono (fun e w' ⟨h1, h2⟩ => ⟨h1, h2.out⟩)
def nodesN (n : Nat) : List Int := (List.range n).map Int.ofNat
def nodesB (n : Nat) : List Bool := (List.range 7).map fun i => decide (i < n)
theorem nodesN_succ (n : Nat) : nodesN (n + 1) = nodesN n ++ [(n : Int)] := by
  unfold nodesN
  rw [List.range_succ, List.map_append]
  rfl
theorem nodesN_len (n : Nat) : (nodesN n).length = n := by simp [nodesN]
theorem new_nodes (r i : Int) (h : RightP r i) (n : Nat) (h1 : 1 ≤ n) (h7 : n ≤ 7) : newP r i (nodesN n) = some (prNew r i (nodesB n)) := by
  rw [newP_end]
  have key : addN (nodesN n) noneB = some (nodesB n) := by
    have : n = 1 ∨ n = 2 ∨ n = 3 ∨ n = 4 ∨ n = 5 ∨ n = 6 ∨ n = 7 := by omega
    rcases this with rfl | rfl | rfl | rfl | rfl | rfl | rfl <;> rfl
  rw [key]
  exact if_neg (fun hh => hh.elim (fun e => by have := nodesN_len n; rw [e] at this; simp at this; omega) (fun e => e h))
theorem nodesB_cnt (n : Nat) (h7 : n ≤ 7) : bcnt (nodesB n) = n := by
  have : n = 0 ∨ n = 1 ∨ n = 2 ∨ n = 3 ∨ n = 4 ∨ n = 5 ∨ n = 6 ∨ n = 7 := by omega
  rcases this with rfl | rfl | rfl | rfl | rfl | rfl | rfl | rfl <;> rfl
theorem nodesB_has (n : Nat) (h7 : n ≤ 7) (k : Nat) (hk : k < n) : bhas (nodesB n) (k : Int) = true := by
  have : n = 0 ∨ n = 1 ∨ n = 2 ∨ n = 3 ∨ n = 4 ∨ n = 5 ∨ n = 6 ∨ n = 7 := by omega
  have hk7 : k < 7 := by omega
  rcases lt7 hk7 with rfl | rfl | rfl | rfl | rfl | rfl | rfl <;> rcases this with rfl | rfl | rfl | rfl | rfl | rfl | rfl | rfl <;> first | rfl | omega
/-- A list of the nodes, from nothing on. -/
def valB (c d : Int) : ByteArray := strOfNums ([(wrap64 (48 + c)) % 256, (wrap64 (97 + d)) % 256] : List Int)
theorem valB_size (c d : Int) : (valB c d).size = 2 := by
  unfold valB
  simp [strOfNums, ByteArray.size]
/-- What stands while the values are proved. -/
structure VS0 (w W : World) (g b0 b1 gp : Nat) (p : PrS) (c d : Int) (ps : List Bool) : Prop where
  P : PrIs W g p
  X0 : W.heap[b0]? = some (.cells #[.int .i64 9, .int .i64 3] 23 (0, 0))
  X1 : W.heap[b1]? = some (.cells #[.int .i64 c, .int .i64 d] 23 (0, 0))
  X2 : W.heap[gp]? = some (.cells (ps.map Value.bool).toArray 4 (0, 0))
  T : TabOk W
  B : Below w.heap.size w W
  big : w.heap.size ≤ g ∧ w.heap.size ≤ b0 ∧ w.heap.size ≤ b1 ∧ w.heap.size ≤ gp ∧ 0 < w.heap.size
  ne : g ≠ b0 ∧ g ≠ b1 ∧ g ≠ gp ∧ b0 ≠ b1 ∧ b0 ≠ gp ∧ b1 ≠ gp
namespace VS0
variable {w W W' : World} {g b0 b1 gp : Nat} {p p' : PrS} {c d c' d' : Int} {ps : List Bool}
theorem below (h : VS0 w W g b0 b1 gp p c d ps) (hb : Below W.heap.size W W') : VS0 w W' g b0 b1 gp p c d ps :=
  ⟨h.P.below hb, blk_below h.X0 hb, blk_below h.X1 hb, blk_below h.X2 hb, h.T.below hb, h.B.trans (hb.mono h.B.size), h.big, h.ne⟩
theorem only (h : VS0 w W g b0 b1 gp p c d ps) (hP : PrIs W' g p') (ho : Only W W' (· = g)) : VS0 w W' g b0 b1 gp p' c d ps :=
  ⟨hP, ho.blk h.X0 (fun e => h.ne.1 e.symm), ho.blk h.X1 (fun e => h.ne.2.1 e.symm), ho.blk h.X2 (fun e => h.ne.2.2.1 e.symm), ho.tab h.T (by have := h.big; omega), h.B.trans (ho.below h.B.size (fun i hi => by have := h.big; omega)), h.big, h.ne⟩
theorem setBest (h : VS0 w W g b0 b1 gp p c d ps) : VS0 w ((W.setCell ⟨b1, 0, none⟩ (.int .i64 c')).setCell ⟨b1, 1, none⟩ (.int .i64 d')) g b0 b1 gp p c' d' ps := by
  have ho : Only W ((W.setCell ⟨b1, 0, none⟩ (.int .i64 c')).setCell ⟨b1, 1, none⟩ (.int .i64 d')) (· = b1) := ((Only.refl W _).set_ 0 _).set_ 1 _
  exact ⟨h.P.only ho h.ne.2.1, ho.blk h.X0 h.ne.2.2.2.1, by rw [blk_set (blk_set h.X1 _ _) _ _]; rfl, ho.blk h.X2 (fun e => h.ne.2.2.2.2.2 e.symm), ho.tab h.T (by have := h.big; omega), h.B.trans (ho.below h.B.size (fun i hi => by have := h.big; omega)), h.big, h.ne⟩
theorem setProm (h : VS0 w W g b0 b1 gp p c d ps) (k : Nat) : VS0 w (W.setCell ⟨gp, k, none⟩ (.bool true)) g b0 b1 gp p c d (ps.set k true) := by
  have ho : Only W (W.setCell ⟨gp, k, none⟩ (.bool true)) (· = gp) := (Only.refl W _).set_ k _
  exact ⟨h.P.only ho h.ne.2.2.1, ho.blk h.X0 h.ne.2.2.2.2.1, ho.blk h.X1 h.ne.2.2.2.2.2, by rw [blk_set h.X2]; simp [List.map_set], ho.tab h.T (by have := h.big; omega), h.B.trans (ho.below h.B.size (fun i hi => by have := h.big; omega)), h.big, h.ne⟩
theorem prom (h : VS0 w W g b0 b1 gp p c d ps) (k : Nat) (hk : k < ps.length) : W.cell? ⟨gp, k, none⟩ = some (.bool (ps.getD k false)) := by
  rw [blk_cell h.X2 k]
  simp [List.getElem?_eq_getElem hk, List.getD_eq_getElem?_getD]
theorem away (h : VS0 w W g b0 b1 gp p c d ps) {a : Nat} (ho : Only W W' (· = a)) (h1 : g < a) (h2 : b0 < a) (h3 : b1 < a) (h4 : gp < a) : VS0 w W' g b0 b1 gp p c d ps :=
  ⟨h.P.only ho (Nat.ne_of_lt h1), ho.blk h.X0 (Nat.ne_of_lt h2), ho.blk h.X1 (Nat.ne_of_lt h3), ho.blk h.X2 (Nat.ne_of_lt h4), ho.tab h.T (by have := h.big; omega), h.B.trans (ho.below h.B.size (fun i hi => by have := h.big; omega)), h.big, h.ne⟩
theorem drewN (h : VS0 w W g b0 b1 gp p c d ps) (n : Nat) : VS0 w (W.drewN n) g b0 b1 gp p c d ps := h.below (pw_below_drewN (Below.refl _ _) n)
theorem alloc (h : VS0 w W g b0 b1 gp p c d ps) (o : Obj) : VS0 w (W.alloc o) g b0 b1 gp p c d ps := h.below (below_alloc (Below.refl _ _) o)
end VS0
/-- What holds of the proposer. -/
structure VInv (n : Nat) (p : PrS) : Prop where
  r : p.r = 9
  n_ : p.n = 3
  nodes : p.nodes = nodesB n
  st : p.st = 0
  l2 : p.prom.length = 7
  best : p.best.c = 0 ∧ p.best.d = 0 ∧ p.best.s = ⟨#[]⟩ ∨ 1 ≤ p.best.c ∧ p.best.c ≤ 3 ∧ 0 ≤ p.best.d ∧ p.best.d < 7 ∧ p.best.s = valB p.best.c p.best.d
def VState (w W : World) (g b0 b1 gp n : Nat) (p : PrS) : Prop := VS0 w W g b0 b1 gp p p.best.c p.best.d p.prom ∧ VInv n p
theorem VInv.new (n : Nat) : VInv n (prNew 9 3 (nodesB n)) := ⟨rfl, rfl, rfl, rfl, rfl, .inl ⟨rfl, rfl, rfl⟩⟩
/-- A promise that tells of nothing taken. -/
theorem VInv.none_ {n : Nat} {p : PrS} (h : VInv n p) (h7 : n ≤ 7) (k : Nat) (hk : k < n) (hm : p.prom.getD k false = false) :
    p.promise (k : Int) ⟨9, 3, 0, 0, ⟨#[]⟩⟩ = ({ p with prom := p.prom.set k true }, true) ∧ VInv n { p with prom := p.prom.set k true } := by
  have hl : ¬ LessP p.best.c p.best.d 0 0 := by unfold LessP; rcases h.best with hb | hb <;> omega
  refine ⟨?_, h.r, h.n_, h.nodes, h.st, by rw [List.length_set]; exact h.l2, h.best⟩
  unfold PrS.promise
  rw [if_pos ⟨h.st, by rw [h.nodes]; exact nodesB_has n h7 k hk, hm, ⟨.inl (by dsimp only; unfold RightP; omega), by dsimp only; unfold LessP; omega, by decide, fun _ => by rw [toList_eq], .inl ⟨rfl, rfl⟩⟩, h.r.symm, h.n_.symm⟩, if_neg hl]
  rfl
theorem VInv.some_ {n : Nat} {p : PrS} (h : VInv n p) (h7 : n ≤ 7) (k : Nat) (hk : k < n) (hm : p.prom.getD k false = false) (c d : Nat) (hc : c < 3) (hd : d < 7) (b : AcS)
    (hb : b = if LessP p.best.c p.best.d (1 + c : Int) (d : Int) then ⟨9, 3, 1 + c, d, valB (1 + c) d⟩ else p.best) :
    p.promise (k : Int) ⟨9, 3, 1 + c, d, valB (1 + c) d⟩ = ({ p with prom := p.prom.set k true, best := b }, true) ∧ VInv n { p with prom := p.prom.set k true, best := b } := by
  refine ⟨?_, h.r, h.n_, h.nodes, h.st, by rw [List.length_set]; exact h.l2, ?_⟩
  · unfold PrS.promise
    rw [if_pos ⟨h.st, by rw [h.nodes]; exact nodesB_has n h7 k hk, hm, ⟨.inl (by dsimp only; unfold RightP; omega), by dsimp only; unfold LessP; omega, by rw [valB_size]; decide, fun e => by dsimp only at e; omega, .inr (by dsimp only; unfold RightP; omega)⟩, h.r.symm, h.n_.symm⟩, hb]
    rfl
  · dsimp only
    rw [hb]
    split
    · exact .inr ⟨by dsimp only; omega, by dsimp only; omega, by dsimp only; omega, by dsimp only; omega, rfl⟩
    · exact h.best
theorem VInv.few {n : Nat} {p : PrS} (h : VInv n p) (h7 : n ≤ 7) (own : ByteArray) (hf : 2 * bcnt p.prom ≤ n) : p.tell own = (p, ⟨#[]⟩, 12) := by
  unfold PrS.tell
  rw [if_neg (by rw [h.st]; simp), h.nodes, nodesB_cnt n h7, if_pos hf]
theorem VInv.many {n : Nat} {p : PrS} (h : VInv n p) (h7 : n ≤ 7) (own : ByteArray) (ho : own.size ≤ 1000) (hf : ¬ 2 * bcnt p.prom ≤ n) : p.tell own = ({ p with st := 1, val := p.tellV own }, p.tellV own, 0) := by
  unfold PrS.tell
  rw [if_neg (by rw [h.st]; simp), h.nodes, nodesB_cnt n h7, if_neg hf, if_neg]
  unfold PrS.tellV
  split
  · omega
  · rename_i hh; rcases h.best with hb | hb
    · exact absurd ⟨hb.1, hb.2.1⟩ hh
    · rw [hb.2.2.2.2, valB_size]; decide
theorem VInv.want {n : Nat} {p : PrS} (h : VInv n p) (own : ByteArray) : p.tellV own = if p.best.c = 0 ∧ p.best.d = 0 then own else valB p.best.c p.best.d := by
  unfold PrS.tellV
  split
  · rfl
  · rename_i hh; rcases h.best with hb | hb
    · exact absurd ⟨hb.1, hb.2.1⟩ hh
    · exact hb.2.2.2.2
theorem tell_again (p : PrS) (v own : ByteArray) : ({ p with st := 1, val := v } : PrS).tell own = ({ p with st := 1, val := v }, v, 0) := rfl

end Go.Proofs.YtnmcknfkmelnbaaDoor.P
