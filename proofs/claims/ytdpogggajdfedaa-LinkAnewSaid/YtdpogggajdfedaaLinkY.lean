import Derived.Test.YtdpogggajdfedaaLinkX
import Derived.Outline
import Derived.Laws.BitsAllLaws
import Derived.WalkSpells
import Derived.StillTailTactics
namespace Go.Proofs.Ytdpogggajdfedaa.P
open Go.RowKit Go.Proofs.YtdpogggajdfedaaW.PrintWords Go.Proofs.YtdpogggajdfedaaW.PrintLast Go.Proofs.YtdpogggajdfedaaW.PrintMore
attribute [local go_sem] max2_int min2_int max_two min_two max_three min_three max_four min_four
set_option linter.unusedVariables false
set_option linter.unusedSimpArgs false
/-! ### The play of an end that begins again, in memory -/
structure AnIs (w W : World) (B : PB) (a : AnM) (Vt Vo Vm : Value) : Prop where
  P : PairIs w W B a.x
  t : Kd.string.R 9 W w.heap.size (fun _ => True) Vt a.told
  o : Kd.string.R 9 W w.heap.size (fun _ => True) Vo a.own
  m : Kd.string.R 9 W w.heap.size (fun _ => True) Vm a.mine
  ct : ∀ k, Vt.ownBlock = some k → B.own k = 6
  co : ∀ k, Vo.ownBlock = some k → B.own k = 7
  cm : ∀ k, Vm.ownBlock = some k → B.own k = 8
theorem PairIs.local_ {w W W1 : World} {B : PB} {x : PaM} {v : Value} {xs : List ByteArray} {c : Nat} (h : PairIs w W B x) (hc : 6 ≤ c) (hv : ∀ k, v.ownBlock = some k → B.own k = c) (hr : Kd.string.R 9 W w.heap.size (fun _ => True) v xs) (ho : Only W W1 (fun k => v.ownBlock = some k)) : PairIs w W1 { B with own := ext B.own W.heap.size c } x := by
  have bx : ∀ {d t : Nat} {C : Array Value}, W.heap[d]? = some (.cells C t (0, 0)) → 9 ≠ t → W1.heap[d]? = some (.cells C t (0, 0)) := fun hX ht => ho.blk hX (fun e => Kd.R_ne hr hX ht e.symm)
  have lk : ∀ {g : Nat} {l : LkS} {V : Value}, LkIs W w.heap.size g l V → LkIs W1 w.heap.size g l V := fun hl => hl.away ho (fun e => Kd.R_ne hr hl.X (by decide) e.symm) (fun k hk e => PairIs.typeNe hr hl.R (by decide) k hk e)
  refine ⟨bx h.X (by decide), bx h.L (by decide), bx h.Y (by decide), bx h.S (by decide), bx h.T (by decide), ⟨lk h.two.A, lk h.two.B, h.two.Bl.trans (ho.below h.two.Bl.size (fun i hi => Kd.R_base hr i hi)), h.two.ne, h.two.dj⟩, fun j hj => R_only rfl (h.y j hj) ho (fun k hk e => PairIs.typeNe hr (h.y j hj) (by decide) k hk e), fun j hj => R_only rfl (h.s j hj) ho (fun k hk e => by have h1 := hv k e; have h2 := h.os j hj k hk; omega), fun j hj => R_only rfl (h.t j hj) ho (fun k hk e => by have h1 := hv k e; have h2 := h.ot j hj k hk; omega), fun j hj k hk => (ext_lt (Kd.R_lt (h.y j hj) k hk)).trans (h.oy j hj k hk), fun j hj k hk => (ext_lt (Kd.R_lt (h.s j hj) k hk)).trans (h.os j hj k hk), fun j hj k hk => (ext_lt (Kd.R_lt (h.t j hj) k hk)).trans (h.ot j hj k hk), h.nst, h.big⟩
namespace AnIs
variable {w W W' : World} {B : PB} {a : AnM} {Vt Vo Vm : Value}
theorem below (h : AnIs w W B a Vt Vo Vm) (hb : Below W.heap.size W W') : AnIs w W' B a Vt Vo Vm := ⟨h.P.below hb, Kd.R_below h.t hb, Kd.R_below h.o hb, Kd.R_below h.m hb, h.ct, h.co, h.cm⟩
theorem drew (h : AnIs w W B a Vt Vo Vm) : AnIs w W.drew B a Vt Vo Vm := h.below (below_drew (Below.refl _ _))
theorem drewN (h : AnIs w W B a Vt Vo Vm) (n : Nat) : AnIs w (W.drewN n) B a Vt Vo Vm := h.below (pw_below_drewN (Below.refl _ _) n)
theorem alloc (h : AnIs w W B a Vt Vo Vm) (o : Obj) : AnIs w (W.alloc o) B a Vt Vo Vm := h.below (below_alloc (Below.refl _ _) o)
/-- A deed of an end. -/
theorem deed (h : AnIs w W B a Vt Vo Vm) (i : Nat) (hi : i < 2) {l' : LkS} {V' : Value} (hA : LkIs W' w.heap.size (B.g i) l' V') (ho : LkOnly W W' (B.g i) (B.V i) V') : AnIs w W' { B with V := upd B.V i V' } { a with x := { a.x with l := upd a.x.l i l' } } Vt Vo Vm :=
  ⟨h.P.deed i hi hA ho, ho.row (h.P.lk i hi) rfl h.t (by decide) (by decide), ho.row (h.P.lk i hi) rfl h.o (by decide) (by decide), ho.row (h.P.lk i hi) rfl h.m (by decide) (by decide), h.ct, h.co, h.cm⟩
theorem way_grew (h : AnIs w W B a Vt Vo Vm) (i : Nat) (hi : i < 2) {W1 : World} {v1 : Value} {ys : List FrT} (hR : kF.R 46 W1 w.heap.size (fun _ => True) v1 ys) (h1 : Only W W1 (fun k => (B.wv i).ownBlock = some k)) (hat : ∀ k, v1.ownBlock = some k → (B.wv i).ownBlock = some k ∨ W.heap.size ≤ k) :
    AnIs w (W1.setCell ⟨B.gw, i, none⟩ v1) { B with wv := upd B.wv i v1, own := ext B.own W.heap.size (4 + i) } { a with x := { a.x with way := upd a.x.way i ys } } Vt Vo Vm := by
  have ho : Only W (W1.setCell ⟨B.gw, i, none⟩ v1) (fun k => (B.wv i).ownBlock = some k ∨ k = B.gw) := (h1.mono (fun k _ hk => .inl hk)).setS (.inl (.inr rfl)) v1
  have row : ∀ {v : Value} {xs : List ByteArray}, Kd.string.R 9 W w.heap.size (fun _ => True) v xs → Kd.string.R 9 (W1.setCell ⟨B.gw, i, none⟩ v1) w.heap.size (fun _ => True) v xs := fun hr =>
    PairIs.rowS (k := kF) (e := 46) (n := w.heap.size) (ok := fun _ => True) (xs := a.x.way i) rfl h.P.Y ho hr (PairIs.typeNe (h.P.y i hi) hr (by decide)) (by decide)
  exact ⟨h.P.way_grew i hi hR h1 hat, row h.t, row h.o, row h.m, fun k hk => (ext_lt (Kd.R_lt h.t k hk)).trans (h.ct k hk), fun k hk => (ext_lt (Kd.R_lt h.o k hk)).trans (h.co k hk), fun k hk => (ext_lt (Kd.R_lt h.m k hk)).trans (h.cm k hk)⟩
theorem sent_grew (h : AnIs w W B a Vt Vo Vm) (i : Nat) (hi : i < 2) {W1 : World} {v1 : Value} {ys : List ByteArray} (hR : Kd.string.R 9 W1 w.heap.size (fun _ => True) v1 ys) (h1 : Only W W1 (fun k => (B.sv i).ownBlock = some k)) (hat : ∀ k, v1.ownBlock = some k → (B.sv i).ownBlock = some k ∨ W.heap.size ≤ k) :
    AnIs w (W1.setCell ⟨B.gs, i, none⟩ v1) { B with sv := upd B.sv i v1, own := ext B.own W.heap.size i } { a with x := { a.x with sent := upd a.x.sent i ys } } Vt Vo Vm := by
  have ho : Only W (W1.setCell ⟨B.gs, i, none⟩ v1) (fun k => (B.sv i).ownBlock = some k ∨ k = B.gs) := (h1.mono (fun k _ hk => .inl hk)).setS (.inl (.inr rfl)) v1
  have row : ∀ {v : Value} {xs : List ByteArray} {c : Nat}, 6 ≤ c → (∀ k, v.ownBlock = some k → B.own k = c) → Kd.string.R 9 W w.heap.size (fun _ => True) v xs → Kd.string.R 9 (W1.setCell ⟨B.gs, i, none⟩ v1) w.heap.size (fun _ => True) v xs := fun hc hv hr =>
    PairIs.rowS (k := Kd.string) (e := 9) (n := w.heap.size) (ok := fun _ => True) (xs := a.x.sent i) rfl h.P.S ho hr (fun k h1 h2 => by have a1 := hv k h1; have b1 := h.P.os i hi k h2; omega) (by decide)
  exact ⟨h.P.sent_grew i hi hR h1 hat, row (by decide) h.ct h.t, row (by decide) h.co h.o, row (by decide) h.cm h.m, fun k hk => (ext_lt (Kd.R_lt h.t k hk)).trans (h.ct k hk), fun k hk => (ext_lt (Kd.R_lt h.o k hk)).trans (h.co k hk), fun k hk => (ext_lt (Kd.R_lt h.m k hk)).trans (h.cm k hk)⟩
/-- A local row grows. -/
theorem other {v : Value} {xs ys : List ByteArray} {c d : Nat} {u : Value} {W1 : World} (hcd : c ≠ d) (hu : ∀ k, u.ownBlock = some k → B.own k = d) (hv : ∀ k, v.ownBlock = some k → B.own k = c) (hr : Kd.string.R 9 W w.heap.size (fun _ => True) v xs) (ho : Only W W1 (fun k => u.ownBlock = some k)) : Kd.string.R 9 W1 w.heap.size (fun _ => True) v xs :=
  R_only rfl hr ho (fun k hk e => hcd ((hv k hk).symm.trans (hu k e)))
theorem cls {v : Value} {c d n : Nat} {own : Nat → Nat} {xs : List ByteArray} {W2 : World} (hr : Kd.string.R 9 W2 n (fun _ => True) v xs) (hv : ∀ k, v.ownBlock = some k → own k = c) : ∀ k, v.ownBlock = some k → ext own W2.heap.size d k = c := fun k hk => (ext_lt (Kd.R_lt hr k hk)).trans (hv k hk)
theorem clsN {v v1 : Value} {c n : Nat} {own : Nat → Nat} {xs : List ByteArray} {W2 : World} (hr : Kd.string.R 9 W2 n (fun _ => True) v xs) (hv : ∀ k, v.ownBlock = some k → own k = c) (hat : ∀ k, v1.ownBlock = some k → v.ownBlock = some k ∨ W2.heap.size ≤ k) : ∀ k, v1.ownBlock = some k → ext own W2.heap.size c k = c := fun k hk => by
  rcases hat k hk with e | e
  · exact (ext_lt (Kd.R_lt hr k e)).trans (hv k e)
  · exact ext_ge e
theorem told_ (h : AnIs w W B a Vt Vo Vm) {W1 : World} {v1 : Value} {ys : List ByteArray} (hR : Kd.string.R 9 W1 w.heap.size (fun _ => True) v1 ys) (ho : Only W W1 (fun k => Vt.ownBlock = some k)) (hat : ∀ k, v1.ownBlock = some k → Vt.ownBlock = some k ∨ W.heap.size ≤ k) : AnIs w W1 { B with own := ext B.own W.heap.size 6 } { a with told := ys } v1 Vo Vm :=
  ⟨h.P.local_ (by decide) h.ct h.t ho, hR, other (ys := ys) (by decide) h.ct h.co h.o ho, other (ys := ys) (by decide) h.ct h.cm h.m ho, clsN h.t h.ct hat, cls h.o h.co, cls h.m h.cm⟩
theorem own_ (h : AnIs w W B a Vt Vo Vm) {W1 : World} {v1 : Value} {ys : List ByteArray} (hR : Kd.string.R 9 W1 w.heap.size (fun _ => True) v1 ys) (ho : Only W W1 (fun k => Vo.ownBlock = some k)) (hat : ∀ k, v1.ownBlock = some k → Vo.ownBlock = some k ∨ W.heap.size ≤ k) : AnIs w W1 { B with own := ext B.own W.heap.size 7 } { a with own := ys } Vt v1 Vm :=
  ⟨h.P.local_ (by decide) h.co h.o ho, other (ys := ys) (by decide) h.co h.ct h.t ho, hR, other (ys := ys) (by decide) h.co h.cm h.m ho, cls h.t h.ct, clsN h.o h.co hat, cls h.m h.cm⟩
theorem mine_ (h : AnIs w W B a Vt Vo Vm) {W1 : World} {v1 : Value} {ys : List ByteArray} (hR : Kd.string.R 9 W1 w.heap.size (fun _ => True) v1 ys) (ho : Only W W1 (fun k => Vm.ownBlock = some k)) (hat : ∀ k, v1.ownBlock = some k → Vm.ownBlock = some k ∨ W.heap.size ≤ k) : AnIs w W1 { B with own := ext B.own W.heap.size 8 } { a with mine := ys } Vt Vo v1 :=
  ⟨h.P.local_ (by decide) h.cm h.m ho, other (ys := ys) (by decide) h.cm h.ct h.t ho, other (ys := ys) (by decide) h.cm h.co h.o ho, hR, cls h.t h.ct, cls h.o h.co, clsN h.m h.cm hat⟩
end AnIs
/-- The second end is a new one. -/
theorem AnIs.start {w W W1 W2 : World} {B : PB} {x : PaM} (h : PairIs w W B x) {g : Nat} (hb : Below W.heap.size W W1) (hg : W.heap.size ≤ g) (hN : LkIs W1 w.heap.size g (LkS.begin_ 9) (.slice none 0 0)) (h2 : W2 = W1.setCell ⟨B.gl, 1, none⟩ (.pointer (some ⟨g, 0, none⟩))) :
    AnIs w W2 { B with g := upd B.g 1 g, V := upd B.V 1 (.slice none 0 0) } (AnM.start x) (.slice none 0 0) (.slice none 0 0) (.slice none 0 0) := by
  subst h2
  have h1 := h.below hb
  have ho : Only W1 (W1.setCell ⟨B.gl, 1, none⟩ (.pointer (some ⟨g, 0, none⟩))) (· = B.gl) := (Only.refl W1 _).set_ 1 _
  have e0 : upd B.g 1 g 0 = B.g 0 := upd_ne _ _ (by decide)
  have e1 : upd B.g 1 g 1 = g := upd_same _ _ _
  have v0 : upd B.V 1 (.slice none 0 0) 0 = B.V 0 := upd_ne _ _ (by decide)
  have v1 : upd B.V 1 (.slice none 0 0) 1 = .slice none 0 0 := upd_same _ _ _
  have l0 : (AnM.start x).x.l 0 = x.l 0 := by show upd x.l 1 (LkS.begin_ 9) 0 = _; exact upd_ne _ _ (by decide)
  have l1 : (AnM.start x).x.l 1 = LkS.begin_ 9 := by show upd x.l 1 (LkS.begin_ 9) 1 = _; exact upd_same _ _ _
  have hA := h1.two.A
  have row : ∀ {α : Type} {d : Kd α} {e n : Nat} {v : Value} {ok : Nat → Prop} {xs : List α}, d.E = [] → e ≠ 37 → d.R e W1 n ok v xs → d.R e (W1.setCell ⟨B.gl, 1, none⟩ (.pointer (some ⟨g, 0, none⟩))) n ok v xs := fun hE he hr => R_only hE hr ho (fun k hk e => Kd.R_ne hr h1.L he (by rw [hk, e]))
  refine ⟨⟨ho.blk h1.X (fun e => blk_ne h1.X h1.L (by decide) e), ?_, ho.blk h1.Y (fun e => blk_ne h1.Y h1.L (by decide) e), ho.blk h1.S (fun e => blk_ne h1.S h1.L (by decide) e), ho.blk h1.T (fun e => blk_ne h1.T h1.L (by decide) e), ⟨?_, ?_, ?_, ?_, ?_⟩, fun i hi => row rfl (by decide) (h1.y i hi), fun i hi => row rfl (by decide) (h1.s i hi), fun i hi => row rfl (by decide) (h1.t i hi), h1.oy, h1.os, h1.ot, h1.nst, h1.big⟩, Kd.R_nil _ _ _ _ _, Kd.R_nil _ _ _ _ _, Kd.R_nil _ _ _ _ _, fun k hk => by simp [Value.ownBlock] at hk, fun k hk => by simp [Value.ownBlock] at hk, fun k hk => by simp [Value.ownBlock] at hk⟩
  · show (W1.setCell ⟨B.gl, 1, none⟩ (.pointer (some ⟨g, 0, none⟩))).heap[B.gl]? = some (.cells #[.pointer (some ⟨upd B.g 1 g 0, 0, none⟩), .pointer (some ⟨upd B.g 1 g 1, 0, none⟩)] 37 (0, 0))
    rw [e0, e1, blk_set h1.L 1 _]
    rfl
  · show LkIs _ _ (upd B.g 1 g 0) _ (upd B.V 1 (.slice none 0 0) 0)
    rw [e0, v0, l0]
    exact hA.away ho (fun e => blk_ne hA.X h1.L (by decide) e) (fun k hk e => Kd.R_ne hA.R h1.L (by decide) (by rw [hk, e]))
  · show LkIs _ _ (upd B.g 1 g 1) _ (upd B.V 1 (.slice none 0 0) 1)
    rw [e1, v1, l1]
    exact hN.away ho (fun e => blk_ne hN.X h1.L (by decide) e) (fun k hk => by simp [Value.ownBlock] at hk)
  · exact h1.two.Bl.trans (ho.below h1.two.Bl.size (fun i hi => by rw [hi]; exact h1.big.2.1))
  · show upd B.g 1 g 0 ≠ upd B.g 1 g 1
    rw [e0, e1]
    have := h.two.A.lt
    omega
  · intro k hk
    show (upd B.V 1 (.slice none 0 0) 1).ownBlock ≠ some k
    rw [v1]
    simp [Value.ownBlock]

end Go.Proofs.Ytdpogggajdfedaa.P
