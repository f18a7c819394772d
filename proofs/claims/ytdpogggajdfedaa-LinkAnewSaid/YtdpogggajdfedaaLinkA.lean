import Derived.Test.YtdpogggajdfedaaPx0
import Derived.Outline
import Derived.Laws.BitsAllLaws
import Derived.WalkSpells
import Derived.StillTailTactics
namespace Go.Proofs.Ytdpogggajdfedaa.P
open Go.RowKit Go.Proofs.YtdpogggajdfedaaW.PrintWords Go.Proofs.YtdpogggajdfedaaW.PrintLast Go.Proofs.YtdpogggajdfedaaW.PrintMore
attribute [local go_sem] max2_int min2_int max_two min_two max_three min_three max_four min_four
set_option linter.unusedVariables false
set_option linter.unusedSimpArgs false
/-- What a call leaves as it was: all but the blocks of S (and what is new since). -/
structure Only (w w' : World) (S : Nat → Prop) : Prop where
  os : w'.os = w.os
  tape : w'.tape = w.tape
  output : w'.output = w.output
  size : w.heap.size ≤ w'.heap.size
  block : ∀ i, i < w.heap.size → ¬ S i → w'.heap[i]? = w.heap[i]?
namespace Only
variable {w w1 w2 : World} {S S' : Nat → Prop} {g : Nat}
theorem refl (w : World) (S : Nat → Prop) : Only w w S := ⟨rfl, rfl, rfl, Nat.le_refl _, fun _ _ _ => rfl⟩
theorem of_below (h : Below w.heap.size w w1) : Only w w1 S := ⟨h.os, h.tape, h.output, h.size, fun i hi _ => h.block i hi⟩
theorem mono (h : Only w w1 S) (hs : ∀ i, i < w.heap.size → S i → S' i) : Only w w1 S' := ⟨h.os, h.tape, h.output, h.size, fun i hi hn => h.block i hi (fun hi2 => hn (hs i hi hi2))⟩
theorem then_ (h : Only w w1 S) (k : Only w1 w2 S') (hs : ∀ i, S' i → S i ∨ w.heap.size ≤ i) : Only w w2 S :=
  ⟨k.os.trans h.os, k.tape.trans h.tape, k.output.trans h.output, Nat.le_trans h.size k.size, fun i hi hn => (k.block i (Nat.lt_of_lt_of_le hi h.size) (fun h2 => (hs i h2).elim hn (fun h3 => by omega))).trans (h.block i hi hn)⟩
theorem trans (h : Only w w1 S) (k : Only w1 w2 S) : Only w w2 S := h.then_ k (fun _ hi => .inl hi)
theorem setS (h : Only w w1 S) {p : Addr} (hp : S p.block ∨ w.heap.size ≤ p.block) (u : Value) : Only w (w1.setCell p u) S :=
  h.then_ (S' := fun k => k = p.block) ⟨rfl, rfl, rfl, by simp [World.setCell], fun i _ hn => Below.heap_setCell w1 p u i hn⟩ (fun k hk => by rw [hk]; exact hp)
theorem set_ (h : Only w w1 (· = g)) (i : Nat) (u : Value) : Only w (w1.setCell ⟨g, i, none⟩ u) (· = g) := h.setS (.inl rfl) u
theorem grown {row : Option Nat} (h : Only w w1 S) (hg : w1.grownBy w2 row) (hr : ∀ k, row = some k → S k ∨ w.heap.size ≤ k) : Only w w2 S :=
  h.then_ (S' := fun k => row = some k) ⟨hg.os, hg.tape, hg.output, hg.size, fun i hi hn => hg.block i hi (fun he => hn he.symm)⟩ hr
theorem below {B : Nat} (h : Only w w1 S) (hB : B ≤ w.heap.size) (hs : ∀ i, S i → B ≤ i) : Below B w w1 :=
  ⟨h.os, h.tape, h.output, h.size, fun i hi => h.block i (Nat.lt_of_lt_of_le hi hB) (fun h2 => by have := hs i h2; omega)⟩
theorem blk (h : Only w w1 S) {i : Nat} {o : Obj} (hb : w.heap[i]? = some o) (hn : ¬ S i) : w1.heap[i]? = some o := (h.block i (blk_lt hb) hn).trans hb
theorem cell (h : Only w w1 S) {a : Addr} {v : Value} (hc : w.cell? a = some v) (hn : ¬ S a.block) : w1.cell? a = some v := by
  have := h.block a.block (World.block_lt_of_cell? w a hc) hn
  simpa [World.cell?, this] using hc
theorem kept (h : Only w w1 S) : Kept w w1 S := ⟨h.size, fun i hi hn => h.block i hi hn⟩

end Only
theorem R_only {α : Type} {d : Kd α} {e : Nat} {W W' : World} {b : Nat} {ok S : Nat → Prop} {v : Value} {xs : List α} (hE : d.E = []) (h : d.R e W b ok v xs) (ho : Only W W' S) (hS : ∀ k, v.ownBlock = some k → ¬ S k) : d.R e W' b ok v xs :=
  Kd.R_mono (Kd.R_step (w1 := W') (Kd.R_tight hE h) (fun k hk hlt => ho.block k hlt (hS k hk.symm))) (fun k hk => h.1 k hk.symm)
theorem R_ok {α : Type} {d : Kd α} {e : Nat} {W : World} {b : Nat} {ok ok' : Nat → Prop} {v : Value} {xs : List α} (hE : d.E = []) (h : d.R e W b ok v xs) (hok : ∀ k, v.ownBlock = some k → ok' k) : d.R e W b ok' v xs :=
  Kd.R_mono (Kd.R_tight hE h) (fun k hk => hok k hk.symm)
abbrev BdT := S65
abbrev FrT := S46
abbrev kB : Kd BdT := k65
abbrev kF : Kd FrT := k46
def bdC (x : BdT) : List Value := [.string x.f0, .bool x.f1, .bool x.f2]
theorem rowB_at {W : World} {b g n cap : Nat} {ok : Nat → Prop} {xs : List BdT} (h : kB.R 65 W b ok (.slice (some ⟨g, 0, none⟩) n cap) xs) (k : Nat) (hk : k < xs.length) :
    W.cell? ⟨g, k * 3, none⟩ = some (.string xs[k].f0) ∧ W.cell? ⟨g, k * 3 + 1, none⟩ = some (.bool xs[k].f1) ∧ W.cell? ⟨g, k * 3 + 2, none⟩ = some (.bool xs[k].f2) := by
  obtain ⟨hn, hc, hC⟩ := Kd.R_reads' h
  obtain ⟨ad, e, h0, h1, h2⟩ := at_T65 hC (k : Int) (by omega) (by omega)
  injection e with e
  subst e
  rw [show ((k : Int)).toNat = k from rfl, add_plain] at h0 h1 h2
  have e2 : rd_T65 xs (k : Int) = xs[k] := by simp [rd_T65, List.getD_eq_getElem?_getD, List.getElem?_eq_getElem hk]
  rw [e2] at h0 h1 h2
  exact ⟨h0, h1, h2⟩
theorem row_frozen {α : Type} {d : Kd α} {e : Nat} {W : World} {b g n cap : Nat} {ok : Nat → Prop} {xs : List α} (h : d.R e W b ok (.slice (some ⟨g, 0, none⟩) n cap) xs) (j : Nat) : W.frozen? ⟨g, j, none⟩ = false := by
  obtain ⟨inner, ho⟩ := Kd.R_own h
  obtain ⟨cells, hc⟩ := own_typed ho g (by simp [Value.ownBlock])
  exact blk_frozen hc j
/-- A field of an element is written. -/
theorem rowB_set {W : World} {b g n cap : Nat} {ok : Nat → Prop} {xs : List BdT} (h : kB.R 65 W b ok (.slice (some ⟨g, 0, none⟩) n cap) xs) (k j : Nat) (hk : k < xs.length) (hj : j < 3) (u : Value) (x' : BdT) (hx : (bdC xs[k]).set j u = bdC x') :
    kB.R 65 (W.setCell ⟨g, k * 3 + j, none⟩ u) b ok (.slice (some ⟨g, 0, none⟩) n cap) (xs.set k x') := by
  obtain ⟨h0, inner, ho, hr⟩ := h
  have hn : xs.length = n := by
    rcases ho.2 with ⟨hv, _⟩ | ⟨g', cap', cur, hv, _⟩
    · cases hv
    · injection hv with _ hv; exact hv.symm
  subst hn
  have hs := (ho.stored (k * 3 + j) u).1
  refine ⟨h0, inner.set (k * 3 + j) u, by rw [List.length_set]; exact hs, ?_⟩
  refine ⟨by rw [List.length_set, List.length_set]; exact hr.1, fun i p hp => ?_⟩
  show kB.M _ _ _ p (((inner.set (k * 3 + j) u).drop (i * 3)).take 3)
  by_cases e : i = k
  · subst e
    rw [List.getElem?_set_self hk] at hp
    injection hp with hp
    subst hp
    have hM := hr.2 i _ (List.getElem?_eq_getElem hk)
    have hM' : (inner.drop (i * 3)).take 3 = bdC xs[i] := k65_openM hM
    rw [List.drop_set, if_neg (by omega), show i * 3 + j - i * 3 = j by omega, List.take_set, hM', hx]
    exact k65_mkM _ _ _ _
  · rw [List.getElem?_set_ne (fun h => e h.symm)] at hp
    have hM := hr.2 i p hp
    have hM' : (inner.drop (i * 3)).take 3 = bdC p := k65_openM hM
    have key : (((inner.set (k * 3 + j) u).drop (i * 3)).take 3) = (inner.drop (i * 3)).take 3 := by
      rw [List.drop_set]
      by_cases hlt : k * 3 + j < i * 3
      · rw [if_pos hlt]
      · rw [if_neg hlt, List.take_set]
        exact List.set_eq_of_length_le (by rw [List.length_take]; omega)
    rw [key, hM']
    exact k65_mkM _ _ _ _
/-! ### What an end does, in plain words -/
/-- An end of a session. -/
structure LkS where
  epoch : Int
  peer : Int
  wait : List BdT
  acked : Int
  taken : Int
  owes : Bool
  ticks : Int
/-- May a frame be? -/
def RightF (f : FrT) : Prop := 1 ≤ f.f0 ∧ f.f0 ≤ 9007199254740991 ∧ 0 ≤ f.f1 ∧ f.f1 ≤ 9007199254740991 ∧ 0 ≤ f.f2 ∧ f.f2 ≤ 9007199254740991 ∧ 0 ≤ f.f3 ∧ f.f3 ≤ 9007199254740991 ∧ (f.f4.size : Int) ≤ 100000 ∧ (f.f2 = 0 → f.f4.toList = [])
instance (f : FrT) : Decidable (RightF f) := by unfold RightF; infer_instance
namespace LkS
def begin_ (e : Int) : LkS := ⟨e, 0, [], 0, 0, true, 0⟩
def isOut (l : LkS) : Bool := match l.wait with
  | [] => false
  | x :: _ => x.f1
def send (l : LkS) (s : ByteArray) : LkS × Int :=
  if 100000 < s.size then (l, 3) else if 32 ≤ l.wait.length then (l, 8) else ({ l with wait := l.wait ++ [⟨s, false, true⟩] }, 0)
def put1 (x : BdT) : BdT := if x.f2 = true then ⟨x.f0, true, false⟩ else x
def frs (e p a t : Int) : Nat → List BdT → List FrT
  | _, [] => []
  | k, x :: xs => if x.f2 = true then ⟨e, p, a + 1 + k, t, x.f0⟩ :: frs e p a t (k + 1) xs else frs e p a t (k + 1) xs
def due (l : LkS) : List FrT := if l.peer = 0 then [] else frs l.epoch l.peer l.acked l.taken 0 (l.wait.take 8)
def outs (l : LkS) : LkS × List FrT :=
  ({ l with wait := if l.peer = 0 then l.wait else (l.wait.take 8).map put1 ++ l.wait.drop 8, owes := false, ticks := if l.peer ≠ 0 ∧ l.isOut = false then 0 else l.ticks },
   if l.due = [] ∧ l.owes = true then [⟨l.epoch, l.peer, 0, l.taken, ⟨#[]⟩⟩] else l.due)
def tick (l : LkS) : LkS :=
  if l.isOut = false then { l with owes := l.owes || decide (l.peer = 0) }
  else if l.ticks + 1 < 3 then { l with owes := l.owes || decide (l.peer = 0), ticks := l.ticks + 1 }
  else { l with owes := l.owes || decide (l.peer = 0), ticks := 0, wait := l.wait.map fun x => ⟨x.f0, x.f1, true⟩ }
def ackd (l : LkS) (n : Int) : LkS :=
  if 1 ≤ n - l.acked ∧ n - l.acked ≤ l.wait.length ∧ (l.wait.getD (n - l.acked - 1).toNat z65).f1 = true then { l with wait := l.wait.drop (n - l.acked).toNat, acked := n, ticks := 0 } else l
def reset (l : LkS) : LkS := { l with wait := [], acked := 0, ticks := 0 }
def meet (l : LkS) (e : Int) : LkS := if l.peer < e then { (if l.peer ≠ 0 then l.reset else l) with peer := e, taken := 0 } else l
def take1 (l : LkS) (f : FrT) : LkS := if f.f2 = l.taken + 1 then { l with taken := l.taken + 1, owes := l.owes || decide (f.f2 ≠ 0) } else { l with owes := l.owes || decide (f.f2 ≠ 0) }
def take (l : LkS) (f : FrT) : LkS × List ByteArray × Bool :=
  if ¬ RightF f ∨ f.f0 < l.peer then (l, [], false)
  else if f.f1 ≠ l.epoch then ({ l.meet f.f0 with owes := true }, [], decide (l.peer < f.f0 ∧ l.peer ≠ 0))
  else (((l.meet f.f0).ackd f.f3).take1 f, if f.f2 = ((l.meet f.f0).ackd f.f3).taken + 1 then [f.f4] else [], decide (l.peer < f.f0 ∧ l.peer ≠ 0))
/-- What always holds of an end. -/
structure Ok (l : LkS) : Prop where
  p0 : 0 ≤ l.peer
  a0 : 0 ≤ l.acked
  a1 : l.acked ≤ 9007199254740991
  t0 : 0 ≤ l.taken
  t1 : l.taken ≤ 9007199254740991
  k0 : 0 ≤ l.ticks
  k1 : l.ticks < 3
  w : l.wait.length ≤ 32
theorem frs_len (e p a t : Int) : ∀ (xs : List BdT) (k : Nat), (frs e p a t k xs).length ≤ xs.length
  | [], _ => Nat.le_refl _
  | x :: xs, k => by
    unfold frs
    have := frs_len e p a t xs (k + 1)
    split <;> simp <;> omega
theorem frs_snoc (e p a t : Int) (x : BdT) : ∀ (xs : List BdT) (k : Nat), frs e p a t k (xs ++ [x]) = frs e p a t k xs ++ if x.f2 = true then [⟨e, p, a + 1 + (k + xs.length : Nat), t, x.f0⟩] else []
  | [], k => by simp [frs]
  | y :: ys, k => by
    simp only [List.cons_append, frs, List.length_cons]
    rw [frs_snoc e p a t x ys (k + 1), show k + 1 + ys.length = k + (ys.length + 1) by omega]
    split <;> simp
theorem due_len (l : LkS) : l.due.length ≤ 8 := by
  unfold due
  by_cases h : l.peer = 0
  · rw [if_pos h]; simp
  · rw [if_neg h]
    have := frs_len l.epoch l.peer l.acked l.taken (l.wait.take 8) 0
    rw [List.length_take] at this
    omega
theorem outs_len (l : LkS) : l.outs.2.length ≤ 8 := by
  have := l.due_len
  show (if l.due = [] ∧ l.owes = true then [_] else l.due).length ≤ 8
  by_cases h : l.due = [] ∧ l.owes = true
  · rw [if_pos h]; simp
  · rw [if_neg h]; exact this
namespace Ok
variable {l : LkS}
theorem send (h : l.Ok) (s : ByteArray) : (l.send s).1.Ok := by
  unfold LkS.send
  split
  · exact h
  · split
    · exact h
    · rename_i h1 h2
      exact ⟨h.p0, h.a0, h.a1, h.t0, h.t1, h.k0, h.k1, by rw [List.length_append, List.length_singleton]; omega⟩
theorem outs (h : l.Ok) : l.outs.1.Ok := by
  refine ⟨h.p0, h.a0, h.a1, h.t0, h.t1, ?_, ?_, ?_⟩
  · show 0 ≤ if l.peer ≠ 0 ∧ l.isOut = false then (0 : Int) else l.ticks
    have := h.k0
    split <;> omega
  · show (if l.peer ≠ 0 ∧ l.isOut = false then (0 : Int) else l.ticks) < 3
    have := h.k1
    split <;> omega
  · show (if l.peer = 0 then l.wait else (l.wait.take 8).map put1 ++ l.wait.drop 8).length ≤ 32
    have := h.w
    split
    · exact this
    · rw [List.length_append, List.length_map, ← List.length_append, List.take_append_drop]; exact this
theorem tick (h : l.Ok) : l.tick.Ok := by
  have h0 := h.k0
  have h1 := h.k1
  unfold LkS.tick
  split
  · exact ⟨h.p0, h.a0, h.a1, h.t0, h.t1, h.k0, h.k1, h.w⟩
  · split
    · exact ⟨h.p0, h.a0, h.a1, h.t0, h.t1, by show 0 ≤ l.ticks + 1; omega, by assumption, h.w⟩
    · exact ⟨h.p0, h.a0, h.a1, h.t0, h.t1, by show (0 : Int) ≤ 0; omega, by show (0 : Int) < 3; omega, by show (l.wait.map _).length ≤ 32; rw [List.length_map]; exact h.w⟩
theorem ackd (h : l.Ok) (n : Int) (hn : n ≤ 9007199254740991) : (l.ackd n).Ok := by
  unfold LkS.ackd
  split
  · rename_i hh
    exact ⟨h.p0, by show 0 ≤ n; have := h.a0; omega, hn, h.t0, h.t1, by show (0 : Int) ≤ 0; omega, by show (0 : Int) < 3; omega, by show (l.wait.drop _).length ≤ 32; rw [List.length_drop]; have := h.w; omega⟩
  · exact h
theorem meet (h : l.Ok) (e : Int) (he : 1 ≤ e) : (l.meet e).Ok := by
  unfold LkS.meet
  split
  · split
    · exact ⟨by show 0 ≤ e; omega, by show (0 : Int) ≤ 0; omega, by show (0 : Int) ≤ 9007199254740991; omega, by show (0 : Int) ≤ 0; omega, by show (0 : Int) ≤ 9007199254740991; omega, by show (0 : Int) ≤ 0; omega, by show (0 : Int) < 3; omega, by show ([] : List BdT).length ≤ 32; simp⟩
    · exact ⟨by show 0 ≤ e; omega, h.a0, h.a1, by show (0 : Int) ≤ 0; omega, by show (0 : Int) ≤ 9007199254740991; omega, h.k0, h.k1, h.w⟩
  · exact h
theorem take1 (h : l.Ok) (f : FrT) (hf : RightF f) : (l.take1 f).Ok := by
  unfold LkS.take1
  split
  · rename_i e
    exact ⟨h.p0, h.a0, h.a1, by show 0 ≤ l.taken + 1; have := h.t0; omega, by show l.taken + 1 ≤ 9007199254740991; have := hf.2.2.2.2.2.1; omega, h.k0, h.k1, h.w⟩
  · exact ⟨h.p0, h.a0, h.a1, h.t0, h.t1, h.k0, h.k1, h.w⟩
theorem take (h : l.Ok) (f : FrT) : (l.take f).1.Ok := by
  unfold LkS.take
  split
  · exact h
  · rename_i hh
    have hf : RightF f := Classical.not_not.1 fun e => hh (.inl e)
    split
    · have := h.meet f.f0 hf.1
      exact ⟨this.p0, this.a0, this.a1, this.t0, this.t1, this.k0, this.k1, this.w⟩
    · exact ((h.meet f.f0 hf.1).ackd f.f3 hf.2.2.2.2.2.2.2.1).take1 f hf
theorem begin_ (e : Int) : (LkS.begin_ e).Ok := by constructor <;> simp [LkS.begin_]
end Ok
end LkS
/-! ### An end in memory -/
def lkC (l : LkS) (V : Value) : Array Value := #[.int .i64 l.epoch, .int .i64 l.peer, V, .int .i64 l.acked, .int .i64 l.taken, .bool l.owes, .int .i64 l.ticks]
/-- An end lies in block g; its row V is its own, from b on. -/
structure LkIs (W : World) (b g : Nat) (l : LkS) (V : Value) : Prop where
  X : W.heap[g]? = some (.cells (lkC l V) 63 (0, 0))
  R : kB.R 65 W b (fun _ => True) V l.wait
  ge : b ≤ g
/-- What a deed of an end changes: its block and its row; the row after is the old one or new. -/
def LkOnly (w w' : World) (g : Nat) (V V' : Value) : Prop := Only w w' (fun k => k = g ∨ V.ownBlock = some k) ∧ (V'.ownBlock = V.ownBlock ∨ ∀ k, V'.ownBlock = some k → w.heap.size ≤ k)
namespace LkIs
variable {W W' : World} {b g : Nat} {l : LkS} {V : Value}
theorem cells (h : LkIs W b g l V) : W.cell? ⟨g, 0, none⟩ = some (.int .i64 l.epoch) ∧ W.cell? ⟨g, 1, none⟩ = some (.int .i64 l.peer) ∧ W.cell? ⟨g, 2, none⟩ = some V ∧ W.cell? ⟨g, 3, none⟩ = some (.int .i64 l.acked) ∧ W.cell? ⟨g, 4, none⟩ = some (.int .i64 l.taken) ∧ W.cell? ⟨g, 5, none⟩ = some (.bool l.owes) ∧ W.cell? ⟨g, 6, none⟩ = some (.int .i64 l.ticks) :=
  ⟨blk_cell h.X 0, blk_cell h.X 1, blk_cell h.X 2, blk_cell h.X 3, blk_cell h.X 4, blk_cell h.X 5, blk_cell h.X 6⟩
theorem frozen (h : LkIs W b g l V) (i : Nat) : W.frozen? ⟨g, i, none⟩ = false := blk_frozen h.X i
theorem lt (h : LkIs W b g l V) : g < W.heap.size := blk_lt h.X
theorem below (h : LkIs W b g l V) (hb : Below W.heap.size W W') : LkIs W' b g l V := ⟨blk_below h.X hb, Kd.R_below h.R hb, h.ge⟩
theorem drew (h : LkIs W b g l V) : LkIs W.drew b g l V := h.below (below_drew (Below.refl _ _))
theorem drewN (h : LkIs W b g l V) (n : Nat) : LkIs (W.drewN n) b g l V := h.below (pw_below_drewN (Below.refl _ _) n)
theorem alloc (h : LkIs W b g l V) (o : Obj) : LkIs (W.alloc o) b g l V := h.below (below_alloc (Below.refl _ _) o)
theorem neR (h : LkIs W b g l V) : V.ownBlock ≠ some g := fun e => Kd.R_ne h.R h.X (by decide) e.symm
theorem neT (h : LkIs W b g l V) {i t : Nat} {C : Array Value} (hb : W.heap[i]? = some (.cells C t (0, 0))) (ht : t ≠ 65) : V.ownBlock ≠ some i := fun e => Kd.R_ne h.R hb (Ne.symm ht) e.symm
theorem away (h : LkIs W b g l V) {S : Nat → Prop} (ho : Only W W' S) (h1 : ¬ S g) (h2 : ∀ k, V.ownBlock = some k → ¬ S k) : LkIs W' b g l V :=
  ⟨ho.blk h.X h1, R_only rfl h.R ho h2, h.ge⟩
/-- A field of its block is written. -/
theorem set1 (h : LkIs W b g l V) (i : Nat) (u : Value) (l' : LkS) (hq : (lkC l V).setIfInBounds i u = lkC l' V) (h1 : l'.wait = l.wait) : LkIs (W.setCell ⟨g, i, none⟩ u) b g l' V := by
  have ho : Only W (W.setCell ⟨g, i, none⟩ u) (· = g) := (Only.refl W _).set_ _ _
  refine ⟨(blk_set h.X i u).trans (by rw [hq]), ?_, h.ge⟩
  rw [h1]
  exact R_only rfl h.R ho (fun k hk e => h.neR (by rw [hk, e]))
/-- A field of an element of its row is written. -/
theorem setR {gr n cap : Nat} (h : LkIs W b g l (.slice (some ⟨gr, 0, none⟩) n cap)) (k j : Nat) (hk : k < l.wait.length) (hj : j < 3) (u : Value) (x' : BdT) (hx : (bdC l.wait[k]).set j u = bdC x') : LkIs (W.setCell ⟨gr, k * 3 + j, none⟩ u) b g { l with wait := l.wait.set k x' } (.slice (some ⟨gr, 0, none⟩) n cap) := by
  have hne : gr ≠ g := fun e => h.neR (by rw [← e]; simp [Value.ownBlock])
  exact ⟨blk_far (p := ⟨gr, k * 3 + j, none⟩) h.X (Ne.symm hne) u, rowB_set h.R k j hk hj u x' hx, h.ge⟩
/-- Its row is another one now. -/
theorem setV (h : LkIs W b g l V) {V1 : Value} {xs : List BdT} (hR : kB.R 65 W b (fun _ => True) V1 xs) : LkIs (W.setCell ⟨g, 2, none⟩ V1) b g { l with wait := xs } V1 :=
  ⟨(blk_set h.X 2 V1).trans rfl, R_only rfl hR ((Only.refl W _).set_ 2 V1) (fun k hk e => Kd.R_ne hR h.X (by decide) (by rw [← e, hk])), h.ge⟩
end LkIs
namespace LkOnly
variable {w w1 w2 : World} {g : Nat} {V V1 V2 : Value}
theorem refl (w : World) (g : Nat) (V : Value) : LkOnly w w g V V := ⟨Only.refl _ _, .inl rfl⟩
theorem of_below (h : Below w.heap.size w w1) : LkOnly w w1 g V V := ⟨Only.of_below h, .inl rfl⟩
theorem trans (h : LkOnly w w1 g V V1) (k : LkOnly w1 w2 g V1 V2) : LkOnly w w2 g V V2 := by
  refine ⟨h.1.then_ k.1 (fun i hi => ?_), ?_⟩
  · rcases hi with hi | hi
    · exact .inl (.inl hi)
    · rcases h.2 with e | e
      · exact .inl (.inr (by rw [← e]; exact hi))
      · exact .inr (e i hi)
  · rcases k.2 with e | e
    · rcases h.2 with e2 | e2
      · exact .inl (e.trans e2)
      · exact .inr (fun i hi => e2 i (by rw [← e]; exact hi))
    · exact .inr (fun i hi => Nat.le_trans h.1.size (e i hi))
theorem set_ (h : LkOnly w w1 g V V1) (i : Nat) (u : Value) : LkOnly w (w1.setCell ⟨g, i, none⟩ u) g V V1 := ⟨h.1.setS (.inl (.inl rfl)) u, h.2⟩
theorem below (h : LkOnly w w1 g V V1) (hb : Below w1.heap.size w1 w2) : LkOnly w w2 g V V1 := h.trans (of_below hb)
end LkOnly

end Go.Proofs.Ytdpogggajdfedaa.P
