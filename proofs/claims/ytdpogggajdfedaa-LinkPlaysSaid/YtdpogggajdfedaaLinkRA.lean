import Derived.Test.YtdpogggajdfedaaLinkG
import Derived.Test.YtdpogggajdfedaaPx8
import Derived.Outline
import Derived.Laws.BitsAllLaws
import Derived.WalkSpells
import Derived.StillTailTactics
namespace Go.Proofs.Ytdpogggajdfedaa.P
open Go.RowKit Go.Proofs.YtdpogggajdfedaaW.PrintWords Go.Proofs.YtdpogggajdfedaaW.PrintLast Go.Proofs.YtdpogggajdfedaaW.PrintMore
attribute [local go_sem] max2_int min2_int max_two min_two max_three min_three max_four min_four
set_option linter.unusedVariables false
set_option linter.unusedSimpArgs false
/-! ### The document's end -/
structure RlS where
  epoch : Int
  peer : Int
  wait : List ByteArray
  first : Int
  out : Int
  due : Int
  taken : Int
  owes : Bool
  ticks : Int
namespace RlS
def begin_ (e : Int) : RlS := ⟨e, 0, [], 1, 0, 0, 0, true, 0⟩
def send (s : RlS) (b : ByteArray) : RlS × Int :=
  if 100000 < b.size then (s, 3) else if 32 ≤ s.wait.length then (s, 8) else ({ s with wait := s.wait ++ [b] }, 0)
def tick (s : RlS) : RlS :=
  if s.out = 0 then { s with owes := s.owes || decide (s.peer = 0) }
  else if s.ticks + 1 = 3 then { s with owes := s.owes || decide (s.peer = 0), ticks := 0, due := 0 }
  else { s with owes := s.owes || decide (s.peer = 0), ticks := s.ticks + 1 }
/-- Out: what is put out from k on, n at most. -/
def fr (s : RlS) (k : Nat) : FrT := ⟨s.epoch, s.peer, s.first + (k : Int), s.taken, s.wait.getD k ByteArray.empty⟩
def put1 (s : RlS) (k : Nat) : RlS := { s with ticks := if s.out = 0 then 0 else s.ticks, out := max s.out ((k : Int) + 1), due := (k : Int) + 1 }
def putN (s : RlS) (k : Nat) : Nat → RlS
  | 0 => s
  | n + 1 => (s.putN k n).put1 (k + n)
def frN (s : RlS) (k : Nat) : Nat → List FrT
  | 0 => []
  | n + 1 => s.frN k n ++ [s.fr (k + n)]
def many (s : RlS) : Nat := if s.peer = 0 then 0 else min s.wait.length 8 - s.due.toNat
def outs (s : RlS) : RlS × List FrT :=
  ({ s.putN s.due.toNat s.many with owes := false }, if s.frN s.due.toNat s.many = [] ∧ s.owes = true then [⟨s.epoch, s.peer, 0, s.taken, ⟨#[]⟩⟩] else s.frN s.due.toNat s.many)
def meet (s : RlS) (e : Int) : RlS :=
  if s.peer < e then { (if s.peer ≠ 0 then { s with wait := [], first := 1, out := 0, due := 0, ticks := 0 } else s) with peer := e, taken := 0 } else s
def ackd (s : RlS) (a : Int) : RlS :=
  if 0 < a - s.first + 1 ∧ a - s.first + 1 ≤ s.out then { s with wait := s.wait.drop (a - s.first + 1).toNat, first := s.first + (a - s.first + 1), out := s.out - (a - s.first + 1), due := max 0 (s.due - (a - s.first + 1)), ticks := 0 } else s
def take1 (s : RlS) (f : FrT) : RlS := if f.f2 = s.taken + 1 then { s with taken := s.taken + 1, owes := s.owes || decide (f.f2 ≠ 0) } else { s with owes := s.owes || decide (f.f2 ≠ 0) }
def take (s : RlS) (f : FrT) : RlS × List ByteArray × Bool :=
  if ¬ RightF f ∨ f.f0 < s.peer then (s, [], false)
  else if f.f1 ≠ s.epoch then ({ s.meet f.f0 with owes := true }, [], decide (s.peer < f.f0 ∧ s.peer ≠ 0))
  else (((s.meet f.f0).ackd f.f3).take1 f, if f.f2 = ((s.meet f.f0).ackd f.f3).taken + 1 then [f.f4] else [], decide (s.peer < f.f0 ∧ s.peer ≠ 0))
structure Ok (s : RlS) : Prop where
  p0 : 0 ≤ s.peer
  f0 : 1 ≤ s.first
  f1 : s.first ≤ 9007199254740992
  d0 : 0 ≤ s.due
  o0 : s.due ≤ s.out
  o1 : s.out ≤ 8
  o2 : s.out ≤ s.wait.length
  t0 : 0 ≤ s.taken
  t1 : s.taken ≤ 9007199254740991
  k0 : 0 ≤ s.ticks
  k1 : s.ticks < 3
  w : s.wait.length ≤ 32
end RlS
def rlC (s : RlS) (V : Value) : Array Value := #[.int .i64 s.epoch, .int .i64 s.peer, V, .int .i64 s.first, .int .i64 s.out, .int .i64 s.due, .int .i64 s.taken, .bool s.owes, .int .i64 s.ticks]
theorem Q_only {α : Type} {d : Kd α} {e : Nat} {W W' : World} {b : Nat} {ok S : Nat → Prop} {v : Value} {xs : List α} (hE : d.E = []) (h : d.Q e W b ok v xs) (ho : Only W W' S) (hS : ∀ k, v.ownBlock = some k → ¬ S k) : d.Q e W' b ok v xs :=
  Kd.Q_mono (Kd.Q_step (w1 := W') (Kd.Q_tight hE h) (fun k hk hlt => ho.block k hlt (hS k hk.symm))) (fun k hk => h.1 k hk.symm)
/-- The document's end lies in block g; its row may begin inside its block. -/
structure RlIs (W : World) (b g : Nat) (s : RlS) (V : Value) : Prop where
  X : W.heap[g]? = some (.cells (rlC s V) 58 (0, 0))
  R : Kd.string.Q 9 W b (fun _ => True) V s.wait
  ge : b ≤ g
namespace RlIs
variable {W W' : World} {b g : Nat} {s : RlS} {V : Value}
theorem cells (h : RlIs W b g s V) : W.cell? ⟨g, 0, none⟩ = some (.int .i64 s.epoch) ∧ W.cell? ⟨g, 1, none⟩ = some (.int .i64 s.peer) ∧ W.cell? ⟨g, 2, none⟩ = some V ∧ W.cell? ⟨g, 3, none⟩ = some (.int .i64 s.first) ∧ W.cell? ⟨g, 4, none⟩ = some (.int .i64 s.out) ∧ W.cell? ⟨g, 5, none⟩ = some (.int .i64 s.due) ∧ W.cell? ⟨g, 6, none⟩ = some (.int .i64 s.taken) ∧ W.cell? ⟨g, 7, none⟩ = some (.bool s.owes) ∧ W.cell? ⟨g, 8, none⟩ = some (.int .i64 s.ticks) :=
  ⟨blk_cell h.X 0, blk_cell h.X 1, blk_cell h.X 2, blk_cell h.X 3, blk_cell h.X 4, blk_cell h.X 5, blk_cell h.X 6, blk_cell h.X 7, blk_cell h.X 8⟩
theorem frozen (h : RlIs W b g s V) (i : Nat) : W.frozen? ⟨g, i, none⟩ = false := blk_frozen h.X i
theorem lt (h : RlIs W b g s V) : g < W.heap.size := blk_lt h.X
theorem below (h : RlIs W b g s V) (hb : Below W.heap.size W W') : RlIs W' b g s V := ⟨blk_below h.X hb, Kd.Q_below h.R hb, h.ge⟩
theorem drewN (h : RlIs W b g s V) (n : Nat) : RlIs (W.drewN n) b g s V := h.below (pw_below_drewN (Below.refl _ _) n)
theorem alloc (h : RlIs W b g s V) (o : Obj) : RlIs (W.alloc o) b g s V := h.below (below_alloc (Below.refl _ _) o)
theorem neR (h : RlIs W b g s V) : V.ownBlock ≠ some g := fun e => Kd.Q_ne h.R h.X (by decide) e.symm
theorem neT (h : RlIs W b g s V) {i t : Nat} {C : Array Value} (hb : W.heap[i]? = some (.cells C t (0, 0))) (ht : t ≠ 9) : V.ownBlock ≠ some i := fun e => Kd.Q_ne h.R hb (Ne.symm ht) e.symm
theorem away (h : RlIs W b g s V) {S : Nat → Prop} (ho : Only W W' S) (h1 : ¬ S g) (h2 : ∀ k, V.ownBlock = some k → ¬ S k) : RlIs W' b g s V :=
  ⟨ho.blk h.X h1, Q_only rfl h.R ho h2, h.ge⟩
theorem set1 (h : RlIs W b g s V) (i : Nat) (u : Value) (s' : RlS) (hq : (rlC s V).setIfInBounds i u = rlC s' V) (h1 : s'.wait = s.wait) : RlIs (W.setCell ⟨g, i, none⟩ u) b g s' V := by
  have ho : Only W (W.setCell ⟨g, i, none⟩ u) (· = g) := (Only.refl W _).set_ _ _
  refine ⟨(blk_set h.X i u).trans (by rw [hq]), ?_, h.ge⟩
  rw [h1]
  exact Q_only rfl h.R ho (fun k hk e => h.neR (by rw [hk, e]))
theorem setV (h : RlIs W b g s V) {V1 : Value} {xs : List ByteArray} (hR : Kd.string.Q 9 W b (fun _ => True) V1 xs) : RlIs (W.setCell ⟨g, 2, none⟩ V1) b g { s with wait := xs } V1 :=
  ⟨(blk_set h.X 2 V1).trans rfl, Q_only rfl hR ((Only.refl W _).set_ 2 V1) (fun k hk e => Kd.Q_ne hR h.X (by decide) (by rw [← e, hk])), h.ge⟩
theorem grew (h : RlIs W b g s V) {V1 : Value} {xs : List ByteArray} (hR : Kd.string.Q 9 W' b (fun _ => True) V1 xs) (hg : W.grownBy W' V.ownBlock) (hat : V1.ownBlock = V.ownBlock ∨ ∃ k, V1.ownBlock = some k ∧ W.heap.size ≤ k) :
    RlIs (W'.setCell ⟨g, 2, none⟩ V1) b g { s with wait := xs } V1 ∧ LkOnly W (W'.setCell ⟨g, 2, none⟩ V1) g V V1 := by
  have h1 : Only W W' (fun k => V.ownBlock = some k) := ⟨hg.os, hg.tape, hg.output, hg.size, fun i hi hn => hg.block i hi (fun e => hn e.symm)⟩
  have hX := h1.blk h.X h.neR
  refine ⟨⟨(blk_set hX 2 V1).trans rfl, Q_only rfl hR ((Only.refl W' _).set_ 2 V1) (fun k hk e => Kd.Q_ne hR hX (by decide) (by rw [← e, hk])), h.ge⟩, ?_, ?_⟩
  · exact (h1.mono (fun i _ hi => .inr hi)).setS (.inl (.inl rfl)) _
  · rcases hat with e | ⟨k, hk, hl⟩
    · exact .inl e
    · exact .inr (fun j hj => by rw [hk] at hj; injection hj with hj; omega)
end RlIs
/-- What New makes. -/
def RNewPost (w : World) (n : Int) (e : Ending) (w' : World) : Prop :=
  Below w.heap.size w w' ∧ ((n < 1 ∨ 9007199254740991 < n) ∧ e = .returned (.pointer none) ∨ ¬ (n < 1 ∨ 9007199254740991 < n) ∧ ∃ g, w.heap.size ≤ g ∧ e = .returned (.pointer (some ⟨g, 0, none⟩)) ∧ ∀ b, b ≤ w.heap.size → RlIs w' b g (RlS.begin_ n) (.slice none 0 0))
theorem rnew_no {w w' : World} {n : Int} (h : n < 1 ∨ 9007199254740991 < n) (hb : Below w.heap.size w w') : RNewPost w n (.returned (.pointer none)) w' := ⟨hb, .inl ⟨h, rfl⟩⟩
theorem rnew_yes {w w' : World} {n : Int} {g : Nat} (h : ¬ (n < 1 ∨ 9007199254740991 < n)) (hb : Below w.heap.size w w') (hg : w.heap.size ≤ g) (hp : ∀ b, b ≤ w.heap.size → RlIs w' b g (RlS.begin_ n) (.slice none 0 0)) : RNewPost w n (.returned (.pointer (some ⟨g, 0, none⟩))) w' := ⟨hb, .inr ⟨h, g, hg, rfl, hp⟩⟩
theorem rnew_calls (n : Int) (w : World) : Calls Try.prog 19 #[.int .i64 n] w (RNewPost w n) := by
  by_cases h1 : n < 1
  · have d1 : decide (n < 1) = true := decide_eq_true h1
    go_enter Try.func19, Try.ntmps19
    go_wp2
    go_ret
    exact rnew_no (.inl h1) (Below.refl _ _)
  · by_cases h2 : 9007199254740991 < n
    · have d1 : decide (n < 1) = false := decide_eq_false h1
      have d2 : decide (n > 9007199254740991) = true := decide_eq_true h2
      go_enter Try.func19, Try.ntmps19
      go_wp2
      go_ret
      exact rnew_no (.inr h2) (Below.refl _ _)
    · have hno : ¬ (n < 1 ∨ 9007199254740991 < n) := fun h => h.elim h1 h2
      have HNO := Aside0.mk hno
      have d1 : decide (n < 1) = false := decide_eq_false h1
      have d2 : decide (n > 9007199254740991) = false := decide_eq_false h2
      clear hno
      go_enter Try.func19, Try.ntmps19
      go_wp2
      go_ret
      exact rnew_yes HNO.out (below_alloc (Below.refl _ _) _) (Nat.le_refl _) (fun b hb => ⟨heap_alloc_new w _, Kd.Q_nil _ _ _ _ _, hb⟩)
theorem rwaiting_calls (b g : Nat) (s : RlS) (V : Value) (w : World) (h : RlIs w b g s V) :
    Calls Try.prog 26 #[.pointer (some ⟨g, 0, none⟩)] w fun e w' => e = .returned (.int .i64 (s.wait.length : Int)) ∧ w' = w := by
  obtain ⟨_, _, hc, _, _, _, _, _, _⟩ := h.cells
  obtain ⟨A, c, e, _⟩ := Kd.Q_slice h.R
  subst e
  clear h
  go_enter Try.func26, Try.ntmps26
  go_wp2
  go_ret
  exact ⟨rfl, rfl⟩
theorem rsend_calls (b g : Nat) (s : RlS) (V : Value) (t : ByteArray) (w : World) (h : RlIs w b g s V) (hl : s.wait.length ≤ 32) :
    Calls Try.prog 20 #[.pointer (some ⟨g, 0, none⟩), .string t] w fun e w' => e = .returned (.int .i64 (s.send t).2) ∧ ∃ V', RlIs w' b g (s.send t).1 V' ∧ LkOnly w w' g V V' := by
  have H := Aside0.mk h
  obtain ⟨h0, h1, h2, h3, h4, h5, h6, h7, h8⟩ := h.cells
  obtain ⟨A, c, e, _⟩ := Kd.Q_slice h.R
  subst e
  unfold RlS.send
  obtain ⟨n, hn⟩ : ∃ n, s.wait.length = n := ⟨_, rfl⟩
  by_cases c1 : 100000 < t.size
  · rw [if_pos c1]
    have d1 : decide ((t.size : Int) > 100000) = true := decide_eq_true (by omega)
    have d2 : decide (t.size > 100000) = true := decide_eq_true (by omega)
    clear h hn
    go_enter Try.func20, Try.ntmps20
    go_wp2
    go_ret
    exact ⟨rfl, _, H.out, LkOnly.refl _ _ _⟩
  · rw [if_neg c1]
    have d1 : decide ((t.size : Int) > 100000) = false := decide_eq_false (by omega)
    have d2 : decide (100000 < t.size) = false := decide_eq_false (by omega)
    by_cases c2 : 32 ≤ s.wait.length
    · rw [if_pos c2]
      rw [hn] at h2 H c2 ⊢
      have d3 : decide ((n : Int) ≥ 32) = true := decide_eq_true (by omega)
      clear h hn
      go_enter Try.func20, Try.ntmps20
      go_wp2
      go_ret
      exact ⟨rfl, _, H.out, LkOnly.refl _ _ _⟩
    · rw [if_neg c2]
      have hgl := h.lt
      have hge := h.ge
      have HR := Aside0.mk h.R
      rw [hn] at h2 H c2 HR hl ⊢
      have d3 : decide ((n : Int) ≥ 32) = false := decide_eq_false (by omega)
      have HL := Aside0.mk hn
      clear h hn
      go_enter Try.func20, Try.ntmps20
      go_wp2_with ((with_reducible refine gate_builtin (b := .append) (xs := #[.tmp 18, .tmp 20]) rfl ?_); at_builtin; refine Kd.Q_append Kd.string (w0 := w) b rfl (.tmp 18) (.tmp 20) 36 9 (.string ⟨#[]⟩) 16 rfl Try.underlying36 infoS rfl (by decide) (by omega) (.slice A n c) s.wait t [.string t] (fun _ => True) (fun _ => False) rfl rfl ?aP (fun _ hk => hk.elim) ?aF ?aO ?aB ?aS ?aL ?_)
      case aP => exact rfl
      case aF => exact (fun _ _ => trivial)
      case aO => exact HR.out
      case aB => exact Below.refl _ _
      case aS => omega
      case aL => rw [HL.out]; omega
      intro v1 w1 ho hb hg hat
      obtain ⟨Ax, cx, ex, _⟩ := Kd.Q_slice ho
      rw [List.length_append, List.length_singleton, HL.out] at ex
      subst ex
      have hG := H.out.grew ho hg hat
      have HP := Aside0.mk hG
      have hX := blk_grown H.out.X hg (fun e => H.out.neR e.symm)
      have hc2 : w1.cell? ⟨g, 2, none⟩ = some (.slice A n c) := (blk_cell hX 2).trans rfl
      have hf2 := blk_frozen hX 2
      clear ho hb hg hat hG hX h0 h1 h2 h3 h4 h5 h6 h7 h8
      go_wp2
      go_ret
      exact ⟨rfl, _, HP.out.1, HP.out.2⟩
theorem RlS.tick_is (s : RlS) : s.tick = if s.out = 0 then { s with owes := s.owes || decide (s.peer = 0) } else if s.ticks + 1 = 3 then { s with owes := s.owes || decide (s.peer = 0), ticks := 0, due := 0 } else { s with owes := s.owes || decide (s.peer = 0), ticks := s.ticks + 1 } := rfl
set_option maxHeartbeats 4000000 in
set_option maxRecDepth 100000 in
theorem rtick_calls (b g : Nat) (s : RlS) (V : Value) (w : World) (h : RlIs w b g s V) (hk0 : 0 ≤ s.ticks) (hk1 : s.ticks < 3) :
    Calls Try.prog 23 #[.pointer (some ⟨g, 0, none⟩)] w fun e w' => e = .returned (.tuple #[]) ∧ RlIs w' b g s.tick V ∧ LkOnly w w' g V V := by
  have H := Aside0.mk h
  obtain ⟨h0, h1, h2, h3, h4, h5, h6, h7, h8⟩ := h.cells
  have f5 := h.frozen 5
  have f7 := h.frozen 7
  have f8 := h.frozen 8
  obtain ⟨T, hT⟩ : ∃ T, s.tick = T := ⟨_, rfl⟩
  rw [hT]
  rw [RlS.tick_is] at hT
  clear h
  by_cases c1 : s.peer = 0
  · by_cases c2 : s.out = 0
    · skip
      rw [decide_eq_true c1, Bool.or_true] at hT
      rw [if_pos c2] at hT
      have q1 : (s.peer == 0) = true := beq_iff_eq.mpr c1
      have q2 : (s.out == 0) = true := beq_iff_eq.mpr c2
      have HP := Aside0.mk hT
      clear hT c1 c2
      go_enter Try.func23, Try.ntmps23
      go_wp2
      first | go_end0 | ((try simp only [Exit.inBlock, Exit.then]); refine bodyPost_ret (results_none rfl _ _ _) rfl ?_)
      exact ⟨rfl, by rw [← HP.out]; exact (H.out.set1 7 (.bool true) { s with owes := true } rfl rfl), ((LkOnly.refl w g V).set_ 7 _)⟩
    · by_cases c3 : s.ticks + 1 = 3
      · skip
        rw [decide_eq_true c1, Bool.or_true] at hT
        rw [if_neg c2] at hT
        rw [if_pos c3] at hT
        have q1 : (s.peer == 0) = true := beq_iff_eq.mpr c1
        have q2 : (s.out == 0) = false := beq_eq_false_iff_ne.mpr c2
        have q3 : (s.ticks + 1 == 3) = true := beq_iff_eq.mpr c3
        have HP := Aside0.mk hT
        clear hT c1 c2 c3
        go_enter Try.func23, Try.ntmps23
        go_wp2
        first | go_end0 | ((try simp only [Exit.inBlock, Exit.then]); refine bodyPost_ret (results_none rfl _ _ _) rfl ?_)
        exact ⟨rfl, by rw [← HP.out]; exact ((((H.out.set1 7 (.bool true) { s with owes := true } rfl rfl).set1 8 (.int .i64 (s.ticks + 1)) { s with owes := true, ticks := s.ticks + 1 } rfl rfl).set1 8 (.int .i64 0) { s with owes := true, ticks := 0 } rfl rfl).set1 5 (.int .i64 0) { s with owes := true, ticks := 0, due := 0 } rfl rfl), (((((LkOnly.refl w g V).set_ 7 _).set_ 8 _).set_ 8 _).set_ 5 _)⟩
      · skip
        rw [decide_eq_true c1, Bool.or_true] at hT
        rw [if_neg c2] at hT
        rw [if_neg c3] at hT
        have q1 : (s.peer == 0) = true := beq_iff_eq.mpr c1
        have q2 : (s.out == 0) = false := beq_eq_false_iff_ne.mpr c2
        have q3 : (s.ticks + 1 == 3) = false := beq_eq_false_iff_ne.mpr c3
        have HP := Aside0.mk hT
        clear hT c1 c2 c3
        go_enter Try.func23, Try.ntmps23
        go_wp2
        first | go_end0 | ((try simp only [Exit.inBlock, Exit.then]); refine bodyPost_ret (results_none rfl _ _ _) rfl ?_)
        exact ⟨rfl, by rw [← HP.out]; exact ((H.out.set1 7 (.bool true) { s with owes := true } rfl rfl).set1 8 (.int .i64 (s.ticks + 1)) { s with owes := true, ticks := s.ticks + 1 } rfl rfl), (((LkOnly.refl w g V).set_ 7 _).set_ 8 _)⟩
  · by_cases c2 : s.out = 0
    · skip
      rw [decide_eq_false c1, Bool.or_false] at hT
      rw [if_pos c2] at hT
      have q1 : (s.peer == 0) = false := beq_eq_false_iff_ne.mpr c1
      have q2 : (s.out == 0) = true := beq_iff_eq.mpr c2
      have HP := Aside0.mk hT
      clear hT c1 c2
      go_enter Try.func23, Try.ntmps23
      go_wp2
      first | go_end0 | ((try simp only [Exit.inBlock, Exit.then]); refine bodyPost_ret (results_none rfl _ _ _) rfl ?_)
      exact ⟨rfl, by rw [← HP.out]; exact H.out, (LkOnly.refl w g V)⟩
    · by_cases c3 : s.ticks + 1 = 3
      · skip
        rw [decide_eq_false c1, Bool.or_false] at hT
        rw [if_neg c2] at hT
        rw [if_pos c3] at hT
        have q1 : (s.peer == 0) = false := beq_eq_false_iff_ne.mpr c1
        have q2 : (s.out == 0) = false := beq_eq_false_iff_ne.mpr c2
        have q3 : (s.ticks + 1 == 3) = true := beq_iff_eq.mpr c3
        have HP := Aside0.mk hT
        clear hT c1 c2 c3
        go_enter Try.func23, Try.ntmps23
        go_wp2
        first | go_end0 | ((try simp only [Exit.inBlock, Exit.then]); refine bodyPost_ret (results_none rfl _ _ _) rfl ?_)
        exact ⟨rfl, by rw [← HP.out]; exact (((H.out.set1 8 (.int .i64 (s.ticks + 1)) { s with owes := s.owes, ticks := s.ticks + 1 } rfl rfl).set1 8 (.int .i64 0) { s with owes := s.owes, ticks := 0 } rfl rfl).set1 5 (.int .i64 0) { s with owes := s.owes, ticks := 0, due := 0 } rfl rfl), ((((LkOnly.refl w g V).set_ 8 _).set_ 8 _).set_ 5 _)⟩
      · skip
        rw [decide_eq_false c1, Bool.or_false] at hT
        rw [if_neg c2] at hT
        rw [if_neg c3] at hT
        have q1 : (s.peer == 0) = false := beq_eq_false_iff_ne.mpr c1
        have q2 : (s.out == 0) = false := beq_eq_false_iff_ne.mpr c2
        have q3 : (s.ticks + 1 == 3) = false := beq_eq_false_iff_ne.mpr c3
        have HP := Aside0.mk hT
        clear hT c1 c2 c3
        go_enter Try.func23, Try.ntmps23
        go_wp2
        first | go_end0 | ((try simp only [Exit.inBlock, Exit.then]); refine bodyPost_ret (results_none rfl _ _ _) rfl ?_)
        exact ⟨rfl, by rw [← HP.out]; exact (H.out.set1 8 (.int .i64 (s.ticks + 1)) { s with owes := s.owes, ticks := s.ticks + 1 } rfl rfl), ((LkOnly.refl w g V).set_ 8 _)⟩

end Go.Proofs.Ytdpogggajdfedaa.P
