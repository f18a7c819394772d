import Derived.Test.YtdpogggajdfedaaLinkRB
import Derived.Outline
import Derived.Laws.BitsAllLaws
import Derived.WalkSpells
import Derived.StillTailTactics
namespace Go.Proofs.Ytdpogggajdfedaa.P
open Go.RowKit Go.Proofs.YtdpogggajdfedaaW.PrintWords Go.Proofs.YtdpogggajdfedaaW.PrintLast Go.Proofs.YtdpogggajdfedaaW.PrintMore
attribute [local go_sem] max2_int min2_int max_two min_two max_three min_three max_four min_four
set_option linter.unusedVariables false
set_option linter.unusedSimpArgs false
/-- What the document's Take answers. -/
def RTakePost (w : World) (b g : Nat) (V : Value) (T : RlS × List ByteArray × Bool) (e : Ending) (w' : World) : Prop :=
  ∃ A c, e = .returned (.tuple #[.slice A T.2.1.length c, .bool T.2.2]) ∧ Kd.string.R 9 w' w.heap.size (fun _ => True) (.slice A T.2.1.length c) T.2.1 ∧ ∃ V', RlIs w' b g T.1 V' ∧ LkOnly w w' g V V'
theorem rtakePost0 {w w' : World} {b g : Nat} {V V' : Value} {T : RlS × List ByteArray × Bool} {l : RlS} {r : Bool} (hT : T = (l, [], r)) (h : RlIs w' b g l V') (ho : LkOnly w w' g V V') : RTakePost w b g V T (.returned (.tuple #[.slice none 0 0, .bool r])) w' := by
  subst hT
  exact ⟨none, 0, rfl, Kd.R_nil _ _ _ _ _, V', h, ho⟩
theorem rtakePost1 {w w' : World} {b g : Nat} {A : Option Addr} {c : Nat} {V V' : Value} {T : RlS × List ByteArray × Bool} {l : RlS} {r : Bool} {s : ByteArray} (hT : T = (l, [s], r)) (hs : Kd.string.R 9 w' w.heap.size (fun _ => True) (.slice A 1 c) [s]) (h : RlIs w' b g l V') (ho : LkOnly w w' g V V') : RTakePost w b g V T (.returned (.tuple #[.slice A 1 c, .bool r])) w' := by
  subst hT
  exact ⟨A, c, rfl, hs, V', h, ho⟩
theorem RlS.meet_epoch (s : RlS) (e : Int) : (s.meet e).epoch = s.epoch := by
  unfold RlS.meet
  split
  · split <;> rfl
  · rfl
theorem RlS.Ok.meet {s : RlS} (h : s.Ok) (e : Int) (he : 1 ≤ e) : (s.meet e).Ok := by
  unfold RlS.meet
  split
  · split
    · constructor <;> (try dsimp only) <;> (try simp only [List.length_nil]) <;> first | omega | decide
    · exact ⟨by show 0 ≤ e; omega, h.f0, h.f1, h.d0, h.o0, h.o1, h.o2, by show (0 : Int) ≤ 0; omega, by show (0 : Int) ≤ 9007199254740991; omega, h.k0, h.k1, h.w⟩
  · exact h
theorem LkOnly.setV {w W : World} {g : Nat} {V V1 V2 : Value} (h : LkOnly w W g V V1) (hV : V2.ownBlock = V1.ownBlock) : LkOnly w (W.setCell ⟨g, 2, none⟩ V2) g V V2 :=
  h.trans ⟨(Only.refl W _).setS (.inl (.inl rfl)) _, .inl hV⟩
theorem LkOnly.boxR {w w' : World} {g k t : Nat} {l : RlS} {b : Nat} {V V' : Value} {C : Array Value} (h : LkOnly w w' g V V') (hl : RlIs w b g l V) (hX : w.heap[k]? = some (.cells C t (0, 0))) (ht : t ≠ 58) (ht2 : t ≠ 9) : w'.heap[k]? = some (.cells C t (0, 0)) :=
  h.1.blk hX (fun e => e.elim (fun e => blk_ne hX hl.X ht e) (hl.neT hX ht2))
theorem LkOnly.setNil {w W : World} {g : Nat} {V V1 : Value} (h : LkOnly w W g V V1) : LkOnly w (W.setCell ⟨g, 2, none⟩ (.slice none 0 0)) g V (.slice none 0 0) :=
  h.trans ⟨(Only.refl W _).setS (.inl (.inl rfl)) _, .inr (fun k hk => by simp [Value.ownBlock] at hk)⟩
theorem rright_is (f : FrT) : carillonref09_Right.f f.f0 f.f1 f.f2 f.f3 f.f4 = some (decide (RightF f)) := by
  obtain ⟨f0, f1, f2, f3, f4⟩ := f
  unfold carillonref09_Right.f
  dsimp only
  have no : ∀ h : ¬ RightF ⟨f0, f1, f2, f3, f4⟩, some false = some (decide (RightF ⟨f0, f1, f2, f3, f4⟩)) := fun h => by rw [decide_eq_false h]
  have tox : ∀ {p : Prop} [Decidable p] {x : Option Bool}, (¬ p → ¬ RightF ⟨f0, f1, f2, f3, f4⟩) → (p → x = some (decide (RightF ⟨f0, f1, f2, f3, f4⟩))) → (if p then x else some false) = some (decide (RightF ⟨f0, f1, f2, f3, f4⟩)) := by
    intro p _ x h1 h2
    by_cases hp : p
    · rw [if_pos hp]; exact h2 hp
    · rw [if_neg hp]; exact no (h1 hp)
  refine tox (fun h hr => h hr.1) (fun c0 => tox (fun h hr => h hr.2.1) (fun c1 => tox (fun h hr => h hr.2.2.1) (fun c2 => tox (fun h hr => h hr.2.2.2.1) (fun c3 => tox (fun h hr => h hr.2.2.2.2.1) (fun c4 => tox (fun h hr => h hr.2.2.2.2.2.1) (fun c5 => tox (fun h hr => h hr.2.2.2.2.2.2.1) (fun c6 => tox (fun h hr => h hr.2.2.2.2.2.2.2.1) (fun c7 => tox (fun h hr => h hr.2.2.2.2.2.2.2.2.1) (fun c8 => ?_)))))))))
  by_cases c9 : f2 = 0
  · rw [if_pos c9]
    have key : (f4.toList == ([] : List UInt8)) = decide (f4.toList = []) := by cases h : f4.toList <;> simp
    rw [key]
    congr 1
    rw [decide_eq_decide]
    exact ⟨fun h => ⟨c0, c1, c2, c3, c4, c5, c6, c7, c8, fun _ => h⟩, fun h => h.2.2.2.2.2.2.2.2.2 c9⟩
  · rw [if_neg c9, decide_eq_true (show RightF ⟨f0, f1, f2, f3, f4⟩ from ⟨c0, c1, c2, c3, c4, c5, c6, c7, c8, fun e => absurd e c9⟩)]
set_option maxHeartbeats 16000000 in
set_option maxRecDepth 100000 in
theorem rtake_no (b g : Nat) (l : RlS) (V : Value) (f0 f1 f2 f3 : Int) (f4 : ByteArray) (T : RlS × List ByteArray × Bool) (w : World) (H : Aside0 (RlIs w b g l V)) (hl : Aside0 l.Ok) (HT : Aside0 (l.take ⟨f0, f1, f2, f3, f4⟩ = T)) (HRF : Aside0 (decide (RightF ⟨f0, f1, f2, f3, f4⟩) = false)) :
    Calls Try.prog 24 #[.pointer (some ⟨g, 0, none⟩), .agg #[.int .i64 f0, .int .i64 f1, .int .i64 f2, .int .i64 f3, .string f4]] w (RTakePost w b g V T) := by
  have HRT : Aside0 (∀ W, Calls Try.prog 32 #[.agg #[.int .i64 f0, .int .i64 f1, .int .i64 f2, .int .i64 f3, .string f4]] W fun e w' => e = .returned (.bool false) ∧ Below W.heap.size W w') := ⟨fun W => carillonref09_Right.calls f0 f1 f2 f3 f4 false W (by have := rright_is ⟨f0, f1, f2, f3, f4⟩; rw [HRF.out] at this; exact this)⟩
  have HX0 := Aside0.mk (heap_alloc_new w (.cells #[.int .i64 f0, .int .i64 f1, .int .i64 f2, .int .i64 f3, .string f4] 46))
  have HL0 := Aside0.mk (H.out.alloc (.cells #[.int .i64 f0, .int .i64 f1, .int .i64 f2, .int .i64 f3, .string f4] 46))
  have HO0 : Aside0 (LkOnly w (w.alloc (.cells #[.int .i64 f0, .int .i64 f1, .int .i64 f2, .int .i64 f3, .string f4] 46)) g V V) := ⟨LkOnly.of_below (below_alloc (Below.refl w.heap.size w) (.cells #[.int .i64 f0, .int .i64 f1, .int .i64 f2, .int .i64 f3, .string f4] 46))⟩
  obtain ⟨b3, hb3⟩ : ∃ b3, w.heap.size = b3 := ⟨_, rfl⟩
  rw [hb3] at HX0
  go_enter Try.func24, Try.ntmps24
  go_wp2_with (go_at_call 32; refine (HRT.out _).mono ?_)
  rintro e w1 ⟨rfl, hb⟩
  try rw [hb3]
  clear hb3
  have HX9 := Aside0.mk (blk_below HX0.out hb)
  have HL9 := Aside0.mk (HL0.out.below hb)
  have HO9 := Aside0.mk (HO0.out.below hb)
  clear hb HX0 HL0 HO0 HRT
  go_wp2
  obtain ⟨z0, z1, z2, z3, z4, _, _, _, _, _⟩ := bx5 HX9.out
  obtain ⟨h0, h1, h2, h3, h4, h5, h6, h7, h8⟩ := HL9.out.cells
  go_quiet (fail)
  have HX4 := Aside0.mk (blk_drewN HX9.out nq)
  have HL4 := Aside0.mk (HL9.out.drewN nq)
  have HO4 := Aside0.mk (HO9.out.below (pw_below_drewN (Below.refl _ _) nq))
  generalize w1.drewN nq = W4 at HX4 HL4 HO4 ⊢
  clear z0 z1 z2 z3 z4 h0 h1 h2 h3 h4 h5 h6 h7 h8
  go_wp2
  go_ret2
  exact rtakePost0 (by rw [← HT.out]; unfold RlS.take; exact if_pos (.inl (of_decide_eq_false HRF.out))) HL4.out HO4.out
set_option maxHeartbeats 16000000 in
set_option maxRecDepth 100000 in
theorem rtake_old (b g : Nat) (l : RlS) (V : Value) (f0 f1 f2 f3 : Int) (f4 : ByteArray) (T : RlS × List ByteArray × Bool) (w : World) (H : Aside0 (RlIs w b g l V)) (hl : Aside0 l.Ok) (HT : Aside0 (l.take ⟨f0, f1, f2, f3, f4⟩ = T)) (HRF : Aside0 (decide (RightF ⟨f0, f1, f2, f3, f4⟩) = true)) (HC : f0 < l.peer) :
    Calls Try.prog 24 #[.pointer (some ⟨g, 0, none⟩), .agg #[.int .i64 f0, .int .i64 f1, .int .i64 f2, .int .i64 f3, .string f4]] w (RTakePost w b g V T) := by
  have d1 : decide (f0 < l.peer) = true := decide_eq_true HC
  have HRT : Aside0 (∀ W, Calls Try.prog 32 #[.agg #[.int .i64 f0, .int .i64 f1, .int .i64 f2, .int .i64 f3, .string f4]] W fun e w' => e = .returned (.bool true) ∧ Below W.heap.size W w') := ⟨fun W => carillonref09_Right.calls f0 f1 f2 f3 f4 true W (by have := rright_is ⟨f0, f1, f2, f3, f4⟩; rw [HRF.out] at this; exact this)⟩
  have HX0 := Aside0.mk (heap_alloc_new w (.cells #[.int .i64 f0, .int .i64 f1, .int .i64 f2, .int .i64 f3, .string f4] 46))
  have HL0 := Aside0.mk (H.out.alloc (.cells #[.int .i64 f0, .int .i64 f1, .int .i64 f2, .int .i64 f3, .string f4] 46))
  have HO0 : Aside0 (LkOnly w (w.alloc (.cells #[.int .i64 f0, .int .i64 f1, .int .i64 f2, .int .i64 f3, .string f4] 46)) g V V) := ⟨LkOnly.of_below (below_alloc (Below.refl w.heap.size w) (.cells #[.int .i64 f0, .int .i64 f1, .int .i64 f2, .int .i64 f3, .string f4] 46))⟩
  obtain ⟨b3, hb3⟩ : ∃ b3, w.heap.size = b3 := ⟨_, rfl⟩
  rw [hb3] at HX0
  go_enter Try.func24, Try.ntmps24
  go_wp2_with (go_at_call 32; refine (HRT.out _).mono ?_)
  rintro e w1 ⟨rfl, hb⟩
  try rw [hb3]
  clear hb3
  have HX9 := Aside0.mk (blk_below HX0.out hb)
  have HL9 := Aside0.mk (HL0.out.below hb)
  have HO9 := Aside0.mk (HO0.out.below hb)
  clear hb HX0 HL0 HO0 HRT
  go_wp2
  obtain ⟨z0, z1, z2, z3, z4, _, _, _, _, _⟩ := bx5 HX9.out
  obtain ⟨h0, h1, h2, h3, h4, h5, h6, h7, h8⟩ := HL9.out.cells
  go_quiet (fail)
  have HX4 := Aside0.mk (blk_drewN HX9.out nq)
  have HL4 := Aside0.mk (HL9.out.drewN nq)
  have HO4 := Aside0.mk (HO9.out.below (pw_below_drewN (Below.refl _ _) nq))
  generalize w1.drewN nq = W4 at HX4 HL4 HO4 ⊢
  clear z0 z1 z2 z3 z4 h0 h1 h2 h3 h4 h5 h6 h7 h8
  go_wp2
  go_ret2
  exact rtakePost0 (by rw [← HT.out]; unfold RlS.take; exact if_pos (.inr HC)) HL4.out HO4.out
set_option maxHeartbeats 16000000 in
set_option maxRecDepth 100000 in
theorem rtake_same (b g : Nat) (l : RlS) (V : Value) (f0 f1 f2 f3 : Int) (f4 : ByteArray) (T : RlS × List ByteArray × Bool) (w : World) (H : Aside0 (RlIs w b g l V)) (hl : Aside0 l.Ok) (HT : Aside0 (l.take ⟨f0, f1, f2, f3, f4⟩ = T)) (HRF : Aside0 (decide (RightF ⟨f0, f1, f2, f3, f4⟩) = true)) (HC : l.peer ≤ f0) (HS : f0 ≤ l.peer) :
    Calls Try.prog 24 #[.pointer (some ⟨g, 0, none⟩), .agg #[.int .i64 f0, .int .i64 f1, .int .i64 f2, .int .i64 f3, .string f4]] w (RTakePost w b g V T) := by
  have hRF : RightF ⟨f0, f1, f2, f3, f4⟩ := of_decide_eq_true HRF.out
  have hf3 : 0 ≤ f3 ∧ f3 ≤ 9007199254740991 := ⟨hRF.2.2.2.2.2.2.1, hRF.2.2.2.2.2.2.2.1⟩
  have hf1 : 1 ≤ f0 := hRF.1
  have HNO : Aside0 (¬ (¬ RightF ⟨f0, f1, f2, f3, f4⟩ ∨ f0 < l.peer)) := ⟨fun h => h.elim (fun h => h hRF) (Int.not_lt.mpr HC)⟩
  clear hRF
  have d1 : decide (f0 < l.peer) = false := decide_eq_false (Int.not_lt.mpr HC)
  have HRT : Aside0 (∀ W, Calls Try.prog 32 #[.agg #[.int .i64 f0, .int .i64 f1, .int .i64 f2, .int .i64 f3, .string f4]] W fun e w' => e = .returned (.bool true) ∧ Below W.heap.size W w') := ⟨fun W => carillonref09_Right.calls f0 f1 f2 f3 f4 true W (by have := rright_is ⟨f0, f1, f2, f3, f4⟩; rw [HRF.out] at this; exact this)⟩
  have HX0 := Aside0.mk (heap_alloc_new w (.cells #[.int .i64 f0, .int .i64 f1, .int .i64 f2, .int .i64 f3, .string f4] 46))
  have HL0 := Aside0.mk (H.out.alloc (.cells #[.int .i64 f0, .int .i64 f1, .int .i64 f2, .int .i64 f3, .string f4] 46))
  have HO0 : Aside0 (LkOnly w (w.alloc (.cells #[.int .i64 f0, .int .i64 f1, .int .i64 f2, .int .i64 f3, .string f4] 46)) g V V) := ⟨LkOnly.of_below (below_alloc (Below.refl w.heap.size w) (.cells #[.int .i64 f0, .int .i64 f1, .int .i64 f2, .int .i64 f3, .string f4] 46))⟩
  obtain ⟨b3, hb3⟩ : ∃ b3, w.heap.size = b3 := ⟨_, rfl⟩
  rw [hb3] at HX0
  go_enter Try.func24, Try.ntmps24
  go_wp2_with (go_at_call 32; refine (HRT.out _).mono ?_)
  rintro e w1 ⟨rfl, hb⟩
  try rw [hb3]
  clear hb3
  have HX9 := Aside0.mk (blk_below HX0.out hb)
  have HL9 := Aside0.mk (HL0.out.below hb)
  have HO9 := Aside0.mk (HO0.out.below hb)
  clear hb HX0 HL0 HO0 HRT
  go_wp2
  obtain ⟨z0, z1, z2, z3, z4, _, _, _, _, _⟩ := bx5 HX9.out
  obtain ⟨h0, h1, h2, h3, h4, h5, h6, h7, h8⟩ := HL9.out.cells
  go_quiet (fail)
  have HX3 := Aside0.mk (blk_drewN HX9.out nq)
  have HL3 := Aside0.mk (HL9.out.drewN nq)
  have HO3 := Aside0.mk (HO9.out.below (pw_below_drewN (Below.refl _ _) nq))
  generalize w1.drewN nq = W3 at HX3 HL3 HO3 ⊢
  clear z0 z1 z2 z3 z4 h0 h1 h2 h3 h4 h5 h6 h7 h8
  have d4 : decide (f0 > l.peer) = false := decide_eq_false (Int.not_lt.mpr HS)
  go_wp2
  obtain ⟨z0, z1, z2, z3, z4, _, _, _, _, _⟩ := bx5 HX3.out
  obtain ⟨h0, h1, h2, h3, h4, h5, h6, h7, h8⟩ := HL3.out.cells
  go_quiet (fail)
  have HX4 := Aside0.mk (blk_drewN HX3.out nq)
  have HL4 := Aside0.mk (HL3.out.drewN nq)
  have HO4 := Aside0.mk (HO3.out.below (pw_below_drewN (Below.refl _ _) nq))
  generalize W3.drewN nq = W4 at HX4 HL4 HO4 ⊢
  clear z0 z1 z2 z3 z4 h0 h1 h2 h3 h4 h5 h6 h7 h8
  obtain ⟨l1, hl1⟩ : ∃ l1, l.meet f0 = l1 := ⟨_, rfl⟩
  have HK1 : Aside0 l1.Ok := ⟨by rw [← hl1]; exact hl.out.meet f0 hf1⟩
  have HM1 := Aside0.mk hl1
  have HE1 : Aside0 (l1.epoch = l.epoch) := ⟨by rw [← hl1]; exact RlS.meet_epoch l f0⟩
  clear hl1
  have HR0 : Aside0 (decide (l.peer < f0 ∧ l.peer ≠ 0) = false) := ⟨decide_eq_false (fun h => Int.not_lt.mpr HS h.1)⟩
  have HL5 : Aside0 (RlIs W4 b g l1 V) := ⟨by rw [← HM1.out]; unfold RlS.meet; rw [if_neg (Int.not_lt.mpr HS)]; exact HL4.out⟩
  have HO5 := HO4
  have HX5 := HX4
  -- behind the meeting
  obtain ⟨V5, HL5, HO5⟩ : ∃ V5, Aside0 (RlIs W4 b g l1 V5) ∧ Aside0 (LkOnly w W4 g V V5) := ⟨_, HL5, HO5⟩
  go_wp2
  obtain ⟨z0, z1, z2, z3, z4, _, _, _, _, _⟩ := bx5 HX5.out
  obtain ⟨h0, h1, h2, h3, h4, h5, h6, h7, h8⟩ := HL5.out.cells
  go_quiet (fail)
  have HX6 := Aside0.mk (blk_drewN HX5.out nq)
  have HL6 := Aside0.mk (HL5.out.drewN nq)
  have HO6 := Aside0.mk (HO5.out.below (pw_below_drewN (Below.refl _ _) nq))
  generalize W4.drewN nq = W6 at HX6 HL6 HO6 ⊢
  clear z0 z1 z2 z3 z4 h0 h1 h2 h3 h4 h5 h6 h7 h8
  have he1 := HE1.out
  by_cases cB : f1 = l.epoch
  case neg =>
    have d2 : (f1 == l1.epoch) = false := beq_eq_false_iff_ne.mpr (by rw [he1]; exact cB)
    have d2' : (f1 != l1.epoch) = true := bne_iff_ne.mpr (by rw [he1]; exact cB)
    obtain ⟨h0, h1, h2, h3, h4, h5, h6, h7, h8⟩ := HL6.out.cells
    have hf7 := HL6.out.frozen 7
    clear he1
    go_wp2
    go_ret2
    exact rtakePost0 (by rw [← HT.out]; unfold RlS.take; rw [if_neg HNO.out, if_pos cB, HR0.out]; show ({ l.meet f0 with owes := true }, _, _) = _; rw [HM1.out]) (HL6.out.set1 7 (.bool true) { l1 with owes := true } rfl rfl) (HO6.out.set_ 7 (.bool true))
  case pos =>
    have d2 : (f1 == l1.epoch) = true := beq_iff_eq.mpr (by rw [he1]; exact cB)
    have d2' : (f1 != l1.epoch) = false := bne_eq_false_iff_eq.mpr (by rw [he1]; exact cB)
    have HT1 : Aside0 (T = ((l1.ackd f3).take1 ⟨f0, f1, f2, f3, f4⟩, if f2 = (l1.ackd f3).taken + 1 then [f4] else [], false)) := ⟨by
      rw [← HT.out]
      unfold RlS.take
      rw [if_neg HNO.out, if_neg (fun h => h cB), HR0.out, HM1.out]⟩
    obtain ⟨fi, hfi⟩ : ∃ fi, l1.first = fi := ⟨_, rfl⟩
    obtain ⟨ou, hou⟩ : ∃ ou, l1.out = ou := ⟨_, rfl⟩
    obtain ⟨du, hdu⟩ : ∃ du, l1.due = du := ⟨_, rfl⟩
    have i1 : 1 ≤ fi := by rw [← hfi]; exact HK1.out.f0
    have i2 : fi ≤ 9007199254740992 := by rw [← hfi]; exact HK1.out.f1
    have i3 : 0 ≤ ou := by rw [← hou]; have := HK1.out.d0; have := HK1.out.o0; omega
    have i4 : ou ≤ 8 := by rw [← hou]; exact HK1.out.o1
    have i5 : 0 ≤ du := by rw [← hdu]; exact HK1.out.d0
    have i6 : du ≤ ou := by rw [← hdu, ← hou]; exact HK1.out.o0
    have HOL : Aside0 (ou ≤ l1.wait.length) := ⟨by rw [← hou]; exact HK1.out.o2⟩
    have HFI := Aside0.mk hfi
    have HOU := Aside0.mk hou
    have HDU := Aside0.mk hdu
    have HT01 : Aside0 (0 ≤ l1.taken ∧ l1.taken ≤ 9007199254740991) := ⟨⟨HK1.out.t0, HK1.out.t1⟩⟩
    have hf30 := hf3.1
    have hf31 := hf3.2
    clear he1 hfi hou hdu
    go_wp2
    obtain ⟨z0, z1, z2, z3, z4, _, _, _, _, _⟩ := bx5 HX6.out
    obtain ⟨h0, h1, h2, h3, h4, h5, h6, h7, h8⟩ := HL6.out.cells
    rw [HFI.out] at h3
    go_quiet (fail)
    have HX7 := Aside0.mk (blk_drewN HX6.out nq)
    have HL7 := Aside0.mk (HL6.out.drewN nq)
    have HO7 := Aside0.mk (HO6.out.below (pw_below_drewN (Below.refl _ _) nq))
    generalize W6.drewN nq = W7 at HX7 HL7 HO7 ⊢
    clear z0 z1 z2 z3 z4 h0 h1 h2 h3 h4 h5 h6 h7 h8
    by_cases cA : 0 < f3 - fi + 1 ∧ f3 - fi + 1 ≤ ou
    case neg =>
      have HT2 : Aside0 (T = (l1.take1 ⟨f0, f1, f2, f3, f4⟩, if f2 = l1.taken + 1 then [f4] else [], false)) := ⟨by
        have ha : l1.ackd f3 = l1 := by unfold RlS.ackd; rw [HFI.out, HOU.out, if_neg cA]
        rw [HT1.out, ha]⟩
      obtain ⟨h0, h1, h2, h3, h4, h5, h6, h7, h8⟩ := HL7.out.cells
      rw [HOU.out] at h4
      have hside : f3 - fi + 1 ≤ 0 ∨ (0 < f3 - fi + 1 ∧ ou < f3 - fi + 1) := by omega
      clear cA
      obtain ⟨V8, HL8, HO8, HX8⟩ : ∃ V8, Aside0 (RlIs W7 b g l1 V8) ∧ Aside0 (LkOnly w W7 g V V8) ∧ Aside0 (W7.heap[b3]? = some (.cells #[.int .i64 f0, .int .i64 f1, .int .i64 f2, .int .i64 f3, .string f4] 46 (0, 0))) := ⟨_, HL7, HO7, HX7⟩
      obtain ⟨l2, hl2⟩ : ∃ l2, l1 = l2 := ⟨_, rfl⟩
      rw [hl2] at HT2 HL8 HT01
      have HL2 := Aside0.mk hl2
      clear hl2
      rcases hside with hsa | ⟨hsa, hsb⟩
      · have d5 : decide (f3 - fi + 1 > 0) = false := decide_eq_false (by omega)
        go_wp2
        clear h0 h1 h2 h3 h4 h5 h6 h7 h8
      -- what is taken: W7, HX8, HL8, HO8, l2, V8
        obtain ⟨tt, htt⟩ : ∃ tt, l2.taken = tt := ⟨_, rfl⟩
        have HTT := Aside0.mk htt
        have ht0 : 0 ≤ tt := by rw [← htt]; exact HT01.out.1
        have ht1 : tt ≤ 9007199254740991 := by rw [← htt]; exact HT01.out.2
        obtain ⟨oo, hoo⟩ : ∃ oo, l2.owes = oo := ⟨_, rfl⟩
        have HOO := Aside0.mk hoo
        clear htt hoo
        go_wp2
        obtain ⟨z0, z1, z2, z3, z4, _, _, _, _, _⟩ := bx5 HX8.out
        obtain ⟨h0, h1, h2, h3, h4, h5, h6, h7, h8⟩ := HL8.out.cells
        rw [HTT.out] at h6
        go_quiet (fail)
        have HX9b := Aside0.mk (blk_drewN HX8.out nq)
        have HL9b := Aside0.mk (HL8.out.drewN nq)
        have HO9b := Aside0.mk (HO8.out.below (pw_below_drewN (Below.refl _ _) nq))
        generalize W7.drewN nq = W9 at HX9b HL9b HO9b ⊢
        clear z0 z1 z2 z3 z4 h0 h1 h2 h3 h4 h5 h6 h7 h8
        by_cases cS : f2 = tt + 1
        · have d3 : (f2 == tt + 1) = true := beq_iff_eq.mpr cS
          have d4 : (f2 != 0) = true := bne_iff_ne.mpr (by omega)
          have HE : Aside0 (T = ({ l2 with taken := tt + 1, owes := true }, [f4], false)) := ⟨by rw [HT2.out]; unfold RlS.take1; rw [HTT.out, if_pos cS, if_pos cS, decide_eq_true (show f2 ≠ 0 by omega), Bool.or_true]⟩
          obtain ⟨z0, z1, z2, z3, z4, _, _, _, _, _⟩ := bx5 HX9b.out
          obtain ⟨h0, h1, h2, h3, h4, h5, h6, h7, h8⟩ := HL9b.out.cells
          rw [HTT.out] at h6
          have g6 := HL9b.out.frozen 6
          have hbg : b3 ≠ g := blk_ne HX9b.out HL9b.out.X (by decide)
          have hbg2 : g ≠ b3 := Ne.symm hbg
          have HLA := Aside0.mk (HL9b.out.set1 6 (.int .i64 (tt + 1)) { l2 with taken := tt + 1 } rfl rfl)
          have HOA := Aside0.mk (HO9b.out.set_ 6 (.int .i64 (tt + 1)))
          have HXA := Aside0.mk (blk_far (p := ⟨g, 6, none⟩) HX9b.out hbg (.int .i64 (tt + 1)))
          clear cS
          go_wp2_with ((with_reducible refine gate_builtin (b := .append) (xs := #[.tmp 142, .tmp 145]) rfl ?_); at_builtin; refine Kd.R_append Kd.string (w0 := W9.setCell ⟨g, 6, none⟩ (.int .i64 (tt + 1))) (W9.setCell ⟨g, 6, none⟩ (.int .i64 (tt + 1))).heap.size rfl (.tmp 142) (.tmp 145) 36 9 (.string ⟨#[]⟩) 16 rfl Try.underlying36 infoS rfl (by decide) (by omega) (.slice none 0 0) [] f4 [.string f4] (fun _ => True) (fun _ => False) rfl (by rw [World.size_setCell]; rfl) ?aP (fun _ hk => hk.elim) ?aF ?aO ?aB ?aS ?aL ?_)
          case aP => exact rfl
          case aF => exact (fun _ _ => trivial)
          case aO => exact Kd.R_nil _ _ _ _ _
          case aB => exact Below.refl _ _
          case aS => exact Nat.le_refl _
          case aL => decide
          intro v1 w1 ho hb hg hat
          have hsz9 := World.size_setCell W9 ⟨g, 6, none⟩ (.int .i64 (tt + 1))
          rw [← hsz9] at hb
          have HLB := Aside0.mk (HLA.out.below hb)
          have HOB := Aside0.mk (HOA.out.below hb)
          have HXB := Aside0.mk (blk_below HXA.out hb)
          have HSB := Aside0.mk (Kd.R_lower ho HO9b.out.1.size)
          have HGB : Aside0 (∀ kk, v1.ownBlock = some kk → ¬ kk = g) := ⟨fun kk hk e => by have h1 := Kd.R_base ho kk hk; have h2 := HL9b.out.lt; omega⟩
          obtain ⟨Ax, cx, ex⟩ := Kd.R_slice ho
          have ex : v1 = .slice Ax 1 cx := ex
          subst ex
          clear ho hb hg hat HLA HOA HXA z0 z1 z2 z3 z4 h0 h1 h2 h3 h4 h5 h6 h7 h8 g6
          obtain ⟨z0, z1, z2, z3, z4, _, _, _, _, _⟩ := bx5 HXB.out
          obtain ⟨h0, h1, h2, h3, h4, h5, h6, h7, h8⟩ := HLB.out.cells
          have g7 := HLB.out.frozen 7
          go_wp2
          go_ret2
          exact rtakePost1 HE.out (R_only rfl HSB.out ((Only.refl _ _).set_ 7 (.bool true)) HGB.out) (HLB.out.set1 7 (.bool true) { l2 with taken := tt + 1, owes := true } rfl rfl) (HOB.out.set_ 7 (.bool true))
        · have d3 : (f2 == tt + 1) = false := beq_eq_false_iff_ne.mpr cS
          by_cases cZ : f2 = 0
          · have d4 : (f2 != 0) = false := bne_eq_false_iff_eq.mpr cZ
            have HE : Aside0 (T = (l2, [], false)) := ⟨by rw [HT2.out]; unfold RlS.take1; rw [if_neg (by rw [HTT.out]; exact cS), if_neg (by rw [HTT.out]; exact cS), decide_eq_false (fun h => h cZ), Bool.or_false]⟩
            obtain ⟨z0, z1, z2, z3, z4, _, _, _, _, _⟩ := bx5 HX9b.out
            clear cS cZ
            go_wp2
            go_ret2
            exact rtakePost0 HE.out HL9b.out HO9b.out
          · have d4 : (f2 != 0) = true := bne_iff_ne.mpr cZ
            have HE : Aside0 (T = ({ l2 with owes := true }, [], false)) := ⟨by rw [HT2.out]; unfold RlS.take1; rw [if_neg (by rw [HTT.out]; exact cS), if_neg (by rw [HTT.out]; exact cS), decide_eq_true (show f2 ≠ 0 from cZ), Bool.or_true]⟩
            obtain ⟨z0, z1, z2, z3, z4, _, _, _, _, _⟩ := bx5 HX9b.out
            obtain ⟨h0, h1, h2, h3, h4, h5, h6, h7, h8⟩ := HL9b.out.cells
            have g7 := HL9b.out.frozen 7
            clear cS cZ
            go_wp2
            go_ret2
            exact rtakePost0 HE.out (HL9b.out.set1 7 (.bool true) { l2 with owes := true } rfl rfl) (HO9b.out.set_ 7 (.bool true))
      · have d5 : decide (f3 - fi + 1 > 0) = true := decide_eq_true (by omega)
        have d6 : decide (f3 - fi + 1 ≤ ou) = false := decide_eq_false (by omega)
        go_wp2
        clear h0 h1 h2 h3 h4 h5 h6 h7 h8
      -- what is taken: W7, HX8, HL8, HO8, l2, V8
        obtain ⟨tt, htt⟩ : ∃ tt, l2.taken = tt := ⟨_, rfl⟩
        have HTT := Aside0.mk htt
        have ht0 : 0 ≤ tt := by rw [← htt]; exact HT01.out.1
        have ht1 : tt ≤ 9007199254740991 := by rw [← htt]; exact HT01.out.2
        obtain ⟨oo, hoo⟩ : ∃ oo, l2.owes = oo := ⟨_, rfl⟩
        have HOO := Aside0.mk hoo
        clear htt hoo
        go_wp2
        obtain ⟨z0, z1, z2, z3, z4, _, _, _, _, _⟩ := bx5 HX8.out
        obtain ⟨h0, h1, h2, h3, h4, h5, h6, h7, h8⟩ := HL8.out.cells
        rw [HTT.out] at h6
        go_quiet (fail)
        have HX9b := Aside0.mk (blk_drewN HX8.out nq)
        have HL9b := Aside0.mk (HL8.out.drewN nq)
        have HO9b := Aside0.mk (HO8.out.below (pw_below_drewN (Below.refl _ _) nq))
        generalize W7.drewN nq = W9 at HX9b HL9b HO9b ⊢
        clear z0 z1 z2 z3 z4 h0 h1 h2 h3 h4 h5 h6 h7 h8
        by_cases cS : f2 = tt + 1
        · have d3 : (f2 == tt + 1) = true := beq_iff_eq.mpr cS
          have d4 : (f2 != 0) = true := bne_iff_ne.mpr (by omega)
          have HE : Aside0 (T = ({ l2 with taken := tt + 1, owes := true }, [f4], false)) := ⟨by rw [HT2.out]; unfold RlS.take1; rw [HTT.out, if_pos cS, if_pos cS, decide_eq_true (show f2 ≠ 0 by omega), Bool.or_true]⟩
          obtain ⟨z0, z1, z2, z3, z4, _, _, _, _, _⟩ := bx5 HX9b.out
          obtain ⟨h0, h1, h2, h3, h4, h5, h6, h7, h8⟩ := HL9b.out.cells
          rw [HTT.out] at h6
          have g6 := HL9b.out.frozen 6
          have hbg : b3 ≠ g := blk_ne HX9b.out HL9b.out.X (by decide)
          have hbg2 : g ≠ b3 := Ne.symm hbg
          have HLA := Aside0.mk (HL9b.out.set1 6 (.int .i64 (tt + 1)) { l2 with taken := tt + 1 } rfl rfl)
          have HOA := Aside0.mk (HO9b.out.set_ 6 (.int .i64 (tt + 1)))
          have HXA := Aside0.mk (blk_far (p := ⟨g, 6, none⟩) HX9b.out hbg (.int .i64 (tt + 1)))
          clear cS
          go_wp2_with ((with_reducible refine gate_builtin (b := .append) (xs := #[.tmp 142, .tmp 145]) rfl ?_); at_builtin; refine Kd.R_append Kd.string (w0 := W9.setCell ⟨g, 6, none⟩ (.int .i64 (tt + 1))) (W9.setCell ⟨g, 6, none⟩ (.int .i64 (tt + 1))).heap.size rfl (.tmp 142) (.tmp 145) 36 9 (.string ⟨#[]⟩) 16 rfl Try.underlying36 infoS rfl (by decide) (by omega) (.slice none 0 0) [] f4 [.string f4] (fun _ => True) (fun _ => False) rfl (by rw [World.size_setCell]; rfl) ?aP (fun _ hk => hk.elim) ?aF ?aO ?aB ?aS ?aL ?_)
          case aP => exact rfl
          case aF => exact (fun _ _ => trivial)
          case aO => exact Kd.R_nil _ _ _ _ _
          case aB => exact Below.refl _ _
          case aS => exact Nat.le_refl _
          case aL => decide
          intro v1 w1 ho hb hg hat
          have hsz9 := World.size_setCell W9 ⟨g, 6, none⟩ (.int .i64 (tt + 1))
          rw [← hsz9] at hb
          have HLB := Aside0.mk (HLA.out.below hb)
          have HOB := Aside0.mk (HOA.out.below hb)
          have HXB := Aside0.mk (blk_below HXA.out hb)
          have HSB := Aside0.mk (Kd.R_lower ho HO9b.out.1.size)
          have HGB : Aside0 (∀ kk, v1.ownBlock = some kk → ¬ kk = g) := ⟨fun kk hk e => by have h1 := Kd.R_base ho kk hk; have h2 := HL9b.out.lt; omega⟩
          obtain ⟨Ax, cx, ex⟩ := Kd.R_slice ho
          have ex : v1 = .slice Ax 1 cx := ex
          subst ex
          clear ho hb hg hat HLA HOA HXA z0 z1 z2 z3 z4 h0 h1 h2 h3 h4 h5 h6 h7 h8 g6
          obtain ⟨z0, z1, z2, z3, z4, _, _, _, _, _⟩ := bx5 HXB.out
          obtain ⟨h0, h1, h2, h3, h4, h5, h6, h7, h8⟩ := HLB.out.cells
          have g7 := HLB.out.frozen 7
          go_wp2
          go_ret2
          exact rtakePost1 HE.out (R_only rfl HSB.out ((Only.refl _ _).set_ 7 (.bool true)) HGB.out) (HLB.out.set1 7 (.bool true) { l2 with taken := tt + 1, owes := true } rfl rfl) (HOB.out.set_ 7 (.bool true))
        · have d3 : (f2 == tt + 1) = false := beq_eq_false_iff_ne.mpr cS
          by_cases cZ : f2 = 0
          · have d4 : (f2 != 0) = false := bne_eq_false_iff_eq.mpr cZ
            have HE : Aside0 (T = (l2, [], false)) := ⟨by rw [HT2.out]; unfold RlS.take1; rw [if_neg (by rw [HTT.out]; exact cS), if_neg (by rw [HTT.out]; exact cS), decide_eq_false (fun h => h cZ), Bool.or_false]⟩
            obtain ⟨z0, z1, z2, z3, z4, _, _, _, _, _⟩ := bx5 HX9b.out
            clear cS cZ
            go_wp2
            go_ret2
            exact rtakePost0 HE.out HL9b.out HO9b.out
          · have d4 : (f2 != 0) = true := bne_iff_ne.mpr cZ
            have HE : Aside0 (T = ({ l2 with owes := true }, [], false)) := ⟨by rw [HT2.out]; unfold RlS.take1; rw [if_neg (by rw [HTT.out]; exact cS), if_neg (by rw [HTT.out]; exact cS), decide_eq_true (show f2 ≠ 0 from cZ), Bool.or_true]⟩
            obtain ⟨z0, z1, z2, z3, z4, _, _, _, _, _⟩ := bx5 HX9b.out
            obtain ⟨h0, h1, h2, h3, h4, h5, h6, h7, h8⟩ := HL9b.out.cells
            have g7 := HL9b.out.frozen 7
            clear cS cZ
            go_wp2
            go_ret2
            exact rtakePost0 HE.out (HL9b.out.set1 7 (.bool true) { l2 with owes := true } rfl rfl) (HO9b.out.set_ 7 (.bool true))
    case pos =>
      obtain ⟨k, hk⟩ : ∃ k : Nat, f3 - fi + 1 = (k : Int) := ⟨(f3 - fi + 1).toNat, by omega⟩
      rw [hk] at cA
      have HCA := Aside0.mk cA
      have hkl : k ≤ l1.wait.length := by have := HOL.out; omega
      obtain ⟨gq, oq, cq, hV, _, _, cells_, hq2⟩ := Kd.Q_form HL7.out.R (by have := HOL.out; omega)
      subst hV
      have HQD := Aside0.mk (Kd.Q_drop HL7.out.R hkl)
      obtain ⟨n, hn⟩ : ∃ n, l1.wait.length = n := ⟨_, rfl⟩
      obtain ⟨h0, h1, h2, h3, h4, h5, h6, h7, h8⟩ := HL7.out.cells
      rw [HFI.out] at h3
      rw [HOU.out] at h4
      rw [HDU.out] at h5
      rw [hn] at h2 HL7 HO7 hkl HQD
      have hkc : n ≤ cq := by have := (Kd.Q_reads' HL7.out.R).2.1; exact this
      have g2 := HL7.out.frozen 2
      have g3 := HL7.out.frozen 3
      have g4 := HL7.out.frozen 4
      have g5 := HL7.out.frozen 5
      have g8 := HL7.out.frozen 8
      have j1 : 0 < k := by omega
      have j2 : (k : Int) ≤ ou := by omega
      clear hq2
      by_cases hck : cq = k
      · by_cases hdk : 0 < du - (k : Int)
        · skip
          have HQ2 : Aside0 (Kd.string.Q 9 W7 b (fun _ => True) (.slice (some ⟨gq, oq, none⟩) (n - k) 0) (l1.wait.drop k)) := ⟨by have h := HQD.out; rw [if_pos hck, hck, Nat.sub_self] at h; exact h⟩
          have hbg : b3 ≠ g := blk_ne HX7.out HL7.out.X (by decide)
          have hmv : max 0 (du - (k : Int)) = (du - (k : Int)) := by omega
          have HA : Aside0 (l1.ackd f3 = ({ l1 with wait := l1.wait.drop k, first := fi + (k : Int), out := ou - (k : Int), due := (du - (k : Int)), ticks := 0 } : RlS)) := ⟨by
            unfold RlS.ackd
            rw [HFI.out, HOU.out, HDU.out, hk, if_pos HCA.out, hmv]
            rfl⟩
          have HL8 := Aside0.mk (((((HL7.out.setV HQ2.out).set1 3 (.int .i64 (fi + (k : Int))) { l1 with wait := l1.wait.drop k, first := fi + (k : Int) } rfl rfl).set1 4 (.int .i64 (ou - (k : Int))) { l1 with wait := l1.wait.drop k, first := fi + (k : Int), out := ou - (k : Int) } rfl rfl).set1 5 (.int .i64 (du - (k : Int))) { l1 with wait := l1.wait.drop k, first := fi + (k : Int), out := ou - (k : Int), due := (du - (k : Int)) } rfl rfl).set1 8 (.int .i64 0) { l1 with wait := l1.wait.drop k, first := fi + (k : Int), out := ou - (k : Int), due := (du - (k : Int)), ticks := 0 } rfl rfl)
          have HO8 := Aside0.mk (((((HO7.out.setV (V2 := (.slice (some ⟨gq, oq, none⟩) (n - k) 0)) rfl).set_ 3 (.int .i64 (fi + (k : Int)))).set_ 4 (.int .i64 (ou - (k : Int)))).set_ 5 (.int .i64 (du - (k : Int)))).set_ 8 (.int .i64 0))
          have HX8 := Aside0.mk (blk_far (p := ⟨g, 8, none⟩) (blk_far (p := ⟨g, 5, none⟩) (blk_far (p := ⟨g, 4, none⟩) (blk_far (p := ⟨g, 3, none⟩) (blk_far (p := ⟨g, 2, none⟩) HX7.out hbg ((.slice (some ⟨gq, oq, none⟩) (n - k) 0))) hbg (.int .i64 (fi + (k : Int)))) hbg (.int .i64 (ou - (k : Int)))) hbg (.int .i64 (du - (k : Int)))) hbg (.int .i64 0))
          have hdk3 : (k : Int) < du := by omega
          have hck2 : (cq = k) = True := eq_true hck
          have HTK : Aside0 (0 ≤ (l1.ackd f3).taken ∧ (l1.ackd f3).taken ≤ 9007199254740991) := ⟨by rw [HA.out]; exact HT01.out⟩
          clear hdk hmv HCA
          go_wp2
          generalize ((((W7.setCell ⟨g, 2, none⟩ (.slice (some ⟨gq, oq, none⟩) (n - k) 0)).setCell ⟨g, 3, none⟩ (.int .i64 (fi + (k : Int)))).setCell ⟨g, 4, none⟩ (.int .i64 (ou - (k : Int)))).setCell ⟨g, 5, none⟩ (.int .i64 (du - (k : Int)))).setCell ⟨g, 8, none⟩ (.int .i64 0) = W8 at HL8 HO8 HX8 ⊢
          clear h0 h1 h2 h3 h4 h5 h6 h7 h8 g2 g3 g4 g5 g8 HQ2 HQD hdk3 hck2
          have HT2 : Aside0 (T = (({ l1 with wait := l1.wait.drop k, first := fi + (k : Int), out := ou - (k : Int), due := (du - (k : Int)), ticks := 0 } : RlS).take1 ⟨f0, f1, f2, f3, f4⟩, if f2 = ({ l1 with wait := l1.wait.drop k, first := fi + (k : Int), out := ou - (k : Int), due := (du - (k : Int)), ticks := 0 } : RlS).taken + 1 then [f4] else [], false)) := ⟨by rw [HT1.out, HA.out]⟩
          clear HT01
          have HT01 := HTK
          rw [HA.out] at HT01
          clear HTK
          generalize ({ l1 with wait := l1.wait.drop k, first := fi + (k : Int), out := ou - (k : Int), due := (du - (k : Int)), ticks := 0 } : RlS) = l2 at HT2 HL8 HT01
          clear HA
        -- what is taken: W8, HX8, HL8, HO8, l2, V8
          obtain ⟨tt, htt⟩ : ∃ tt, l2.taken = tt := ⟨_, rfl⟩
          have HTT := Aside0.mk htt
          have ht0 : 0 ≤ tt := by rw [← htt]; exact HT01.out.1
          have ht1 : tt ≤ 9007199254740991 := by rw [← htt]; exact HT01.out.2
          obtain ⟨oo, hoo⟩ : ∃ oo, l2.owes = oo := ⟨_, rfl⟩
          have HOO := Aside0.mk hoo
          clear htt hoo
          go_wp2
          obtain ⟨z0, z1, z2, z3, z4, _, _, _, _, _⟩ := bx5 HX8.out
          obtain ⟨h0, h1, h2, h3, h4, h5, h6, h7, h8⟩ := HL8.out.cells
          rw [HTT.out] at h6
          go_quiet (fail)
          have HX9b := Aside0.mk (blk_drewN HX8.out nq)
          have HL9b := Aside0.mk (HL8.out.drewN nq)
          have HO9b := Aside0.mk (HO8.out.below (pw_below_drewN (Below.refl _ _) nq))
          generalize W8.drewN nq = W9 at HX9b HL9b HO9b ⊢
          clear z0 z1 z2 z3 z4 h0 h1 h2 h3 h4 h5 h6 h7 h8
          by_cases cS : f2 = tt + 1
          · have d3 : (f2 == tt + 1) = true := beq_iff_eq.mpr cS
            have d4 : (f2 != 0) = true := bne_iff_ne.mpr (by omega)
            have HE : Aside0 (T = ({ l2 with taken := tt + 1, owes := true }, [f4], false)) := ⟨by rw [HT2.out]; unfold RlS.take1; rw [HTT.out, if_pos cS, if_pos cS, decide_eq_true (show f2 ≠ 0 by omega), Bool.or_true]⟩
            obtain ⟨z0, z1, z2, z3, z4, _, _, _, _, _⟩ := bx5 HX9b.out
            obtain ⟨h0, h1, h2, h3, h4, h5, h6, h7, h8⟩ := HL9b.out.cells
            rw [HTT.out] at h6
            have g6 := HL9b.out.frozen 6
            have hbg : b3 ≠ g := blk_ne HX9b.out HL9b.out.X (by decide)
            have hbg2 : g ≠ b3 := Ne.symm hbg
            have HLA := Aside0.mk (HL9b.out.set1 6 (.int .i64 (tt + 1)) { l2 with taken := tt + 1 } rfl rfl)
            have HOA := Aside0.mk (HO9b.out.set_ 6 (.int .i64 (tt + 1)))
            have HXA := Aside0.mk (blk_far (p := ⟨g, 6, none⟩) HX9b.out hbg (.int .i64 (tt + 1)))
            clear cS
            go_wp2_with ((with_reducible refine gate_builtin (b := .append) (xs := #[.tmp 142, .tmp 145]) rfl ?_); at_builtin; refine Kd.R_append Kd.string (w0 := W9.setCell ⟨g, 6, none⟩ (.int .i64 (tt + 1))) (W9.setCell ⟨g, 6, none⟩ (.int .i64 (tt + 1))).heap.size rfl (.tmp 142) (.tmp 145) 36 9 (.string ⟨#[]⟩) 16 rfl Try.underlying36 infoS rfl (by decide) (by omega) (.slice none 0 0) [] f4 [.string f4] (fun _ => True) (fun _ => False) rfl (by rw [World.size_setCell]; rfl) ?aP (fun _ hk => hk.elim) ?aF ?aO ?aB ?aS ?aL ?_)
            case aP => exact rfl
            case aF => exact (fun _ _ => trivial)
            case aO => exact Kd.R_nil _ _ _ _ _
            case aB => exact Below.refl _ _
            case aS => exact Nat.le_refl _
            case aL => decide
            intro v1 w1 ho hb hg hat
            have hsz9 := World.size_setCell W9 ⟨g, 6, none⟩ (.int .i64 (tt + 1))
            rw [← hsz9] at hb
            have HLB := Aside0.mk (HLA.out.below hb)
            have HOB := Aside0.mk (HOA.out.below hb)
            have HXB := Aside0.mk (blk_below HXA.out hb)
            have HSB := Aside0.mk (Kd.R_lower ho HO9b.out.1.size)
            have HGB : Aside0 (∀ kk, v1.ownBlock = some kk → ¬ kk = g) := ⟨fun kk hk e => by have h1 := Kd.R_base ho kk hk; have h2 := HL9b.out.lt; omega⟩
            obtain ⟨Ax, cx, ex⟩ := Kd.R_slice ho
            have ex : v1 = .slice Ax 1 cx := ex
            subst ex
            clear ho hb hg hat HLA HOA HXA z0 z1 z2 z3 z4 h0 h1 h2 h3 h4 h5 h6 h7 h8 g6
            obtain ⟨z0, z1, z2, z3, z4, _, _, _, _, _⟩ := bx5 HXB.out
            obtain ⟨h0, h1, h2, h3, h4, h5, h6, h7, h8⟩ := HLB.out.cells
            have g7 := HLB.out.frozen 7
            go_wp2
            go_ret2
            exact rtakePost1 HE.out (R_only rfl HSB.out ((Only.refl _ _).set_ 7 (.bool true)) HGB.out) (HLB.out.set1 7 (.bool true) { l2 with taken := tt + 1, owes := true } rfl rfl) (HOB.out.set_ 7 (.bool true))
          · have d3 : (f2 == tt + 1) = false := beq_eq_false_iff_ne.mpr cS
            by_cases cZ : f2 = 0
            · have d4 : (f2 != 0) = false := bne_eq_false_iff_eq.mpr cZ
              have HE : Aside0 (T = (l2, [], false)) := ⟨by rw [HT2.out]; unfold RlS.take1; rw [if_neg (by rw [HTT.out]; exact cS), if_neg (by rw [HTT.out]; exact cS), decide_eq_false (fun h => h cZ), Bool.or_false]⟩
              obtain ⟨z0, z1, z2, z3, z4, _, _, _, _, _⟩ := bx5 HX9b.out
              clear cS cZ
              go_wp2
              go_ret2
              exact rtakePost0 HE.out HL9b.out HO9b.out
            · have d4 : (f2 != 0) = true := bne_iff_ne.mpr cZ
              have HE : Aside0 (T = ({ l2 with owes := true }, [], false)) := ⟨by rw [HT2.out]; unfold RlS.take1; rw [if_neg (by rw [HTT.out]; exact cS), if_neg (by rw [HTT.out]; exact cS), decide_eq_true (show f2 ≠ 0 from cZ), Bool.or_true]⟩
              obtain ⟨z0, z1, z2, z3, z4, _, _, _, _, _⟩ := bx5 HX9b.out
              obtain ⟨h0, h1, h2, h3, h4, h5, h6, h7, h8⟩ := HL9b.out.cells
              have g7 := HL9b.out.frozen 7
              clear cS cZ
              go_wp2
              go_ret2
              exact rtakePost0 HE.out (HL9b.out.set1 7 (.bool true) { l2 with owes := true } rfl rfl) (HO9b.out.set_ 7 (.bool true))
        · skip
          have HQ2 : Aside0 (Kd.string.Q 9 W7 b (fun _ => True) (.slice (some ⟨gq, oq, none⟩) (n - k) 0) (l1.wait.drop k)) := ⟨by have h := HQD.out; rw [if_pos hck, hck, Nat.sub_self] at h; exact h⟩
          have hbg : b3 ≠ g := blk_ne HX7.out HL7.out.X (by decide)
          have hmv : max 0 (du - (k : Int)) = 0 := by omega
          have HA : Aside0 (l1.ackd f3 = ({ l1 with wait := l1.wait.drop k, first := fi + (k : Int), out := ou - (k : Int), due := 0, ticks := 0 } : RlS)) := ⟨by
            unfold RlS.ackd
            rw [HFI.out, HOU.out, HDU.out, hk, if_pos HCA.out, hmv]
            rfl⟩
          have HL8 := Aside0.mk (((((HL7.out.setV HQ2.out).set1 3 (.int .i64 (fi + (k : Int))) { l1 with wait := l1.wait.drop k, first := fi + (k : Int) } rfl rfl).set1 4 (.int .i64 (ou - (k : Int))) { l1 with wait := l1.wait.drop k, first := fi + (k : Int), out := ou - (k : Int) } rfl rfl).set1 5 (.int .i64 0) { l1 with wait := l1.wait.drop k, first := fi + (k : Int), out := ou - (k : Int), due := 0 } rfl rfl).set1 8 (.int .i64 0) { l1 with wait := l1.wait.drop k, first := fi + (k : Int), out := ou - (k : Int), due := 0, ticks := 0 } rfl rfl)
          have HO8 := Aside0.mk (((((HO7.out.setV (V2 := (.slice (some ⟨gq, oq, none⟩) (n - k) 0)) rfl).set_ 3 (.int .i64 (fi + (k : Int)))).set_ 4 (.int .i64 (ou - (k : Int)))).set_ 5 (.int .i64 0)).set_ 8 (.int .i64 0))
          have HX8 := Aside0.mk (blk_far (p := ⟨g, 8, none⟩) (blk_far (p := ⟨g, 5, none⟩) (blk_far (p := ⟨g, 4, none⟩) (blk_far (p := ⟨g, 3, none⟩) (blk_far (p := ⟨g, 2, none⟩) HX7.out hbg ((.slice (some ⟨gq, oq, none⟩) (n - k) 0))) hbg (.int .i64 (fi + (k : Int)))) hbg (.int .i64 (ou - (k : Int)))) hbg (.int .i64 0)) hbg (.int .i64 0))
          have hdk3 : du ≤ (k : Int) := by omega
          have hck2 : (cq = k) = True := eq_true hck
          have HTK : Aside0 (0 ≤ (l1.ackd f3).taken ∧ (l1.ackd f3).taken ≤ 9007199254740991) := ⟨by rw [HA.out]; exact HT01.out⟩
          clear hdk hmv HCA
          go_wp2
          generalize ((((W7.setCell ⟨g, 2, none⟩ (.slice (some ⟨gq, oq, none⟩) (n - k) 0)).setCell ⟨g, 3, none⟩ (.int .i64 (fi + (k : Int)))).setCell ⟨g, 4, none⟩ (.int .i64 (ou - (k : Int)))).setCell ⟨g, 5, none⟩ (.int .i64 0)).setCell ⟨g, 8, none⟩ (.int .i64 0) = W8 at HL8 HO8 HX8 ⊢
          clear h0 h1 h2 h3 h4 h5 h6 h7 h8 g2 g3 g4 g5 g8 HQ2 HQD hdk3 hck2
          have HT2 : Aside0 (T = (({ l1 with wait := l1.wait.drop k, first := fi + (k : Int), out := ou - (k : Int), due := 0, ticks := 0 } : RlS).take1 ⟨f0, f1, f2, f3, f4⟩, if f2 = ({ l1 with wait := l1.wait.drop k, first := fi + (k : Int), out := ou - (k : Int), due := 0, ticks := 0 } : RlS).taken + 1 then [f4] else [], false)) := ⟨by rw [HT1.out, HA.out]⟩
          clear HT01
          have HT01 := HTK
          rw [HA.out] at HT01
          clear HTK
          generalize ({ l1 with wait := l1.wait.drop k, first := fi + (k : Int), out := ou - (k : Int), due := 0, ticks := 0 } : RlS) = l2 at HT2 HL8 HT01
          clear HA
        -- what is taken: W8, HX8, HL8, HO8, l2, V8
          obtain ⟨tt, htt⟩ : ∃ tt, l2.taken = tt := ⟨_, rfl⟩
          have HTT := Aside0.mk htt
          have ht0 : 0 ≤ tt := by rw [← htt]; exact HT01.out.1
          have ht1 : tt ≤ 9007199254740991 := by rw [← htt]; exact HT01.out.2
          obtain ⟨oo, hoo⟩ : ∃ oo, l2.owes = oo := ⟨_, rfl⟩
          have HOO := Aside0.mk hoo
          clear htt hoo
          go_wp2
          obtain ⟨z0, z1, z2, z3, z4, _, _, _, _, _⟩ := bx5 HX8.out
          obtain ⟨h0, h1, h2, h3, h4, h5, h6, h7, h8⟩ := HL8.out.cells
          rw [HTT.out] at h6
          go_quiet (fail)
          have HX9b := Aside0.mk (blk_drewN HX8.out nq)
          have HL9b := Aside0.mk (HL8.out.drewN nq)
          have HO9b := Aside0.mk (HO8.out.below (pw_below_drewN (Below.refl _ _) nq))
          generalize W8.drewN nq = W9 at HX9b HL9b HO9b ⊢
          clear z0 z1 z2 z3 z4 h0 h1 h2 h3 h4 h5 h6 h7 h8
          by_cases cS : f2 = tt + 1
          · have d3 : (f2 == tt + 1) = true := beq_iff_eq.mpr cS
            have d4 : (f2 != 0) = true := bne_iff_ne.mpr (by omega)
            have HE : Aside0 (T = ({ l2 with taken := tt + 1, owes := true }, [f4], false)) := ⟨by rw [HT2.out]; unfold RlS.take1; rw [HTT.out, if_pos cS, if_pos cS, decide_eq_true (show f2 ≠ 0 by omega), Bool.or_true]⟩
            obtain ⟨z0, z1, z2, z3, z4, _, _, _, _, _⟩ := bx5 HX9b.out
            obtain ⟨h0, h1, h2, h3, h4, h5, h6, h7, h8⟩ := HL9b.out.cells
            rw [HTT.out] at h6
            have g6 := HL9b.out.frozen 6
            have hbg : b3 ≠ g := blk_ne HX9b.out HL9b.out.X (by decide)
            have hbg2 : g ≠ b3 := Ne.symm hbg
            have HLA := Aside0.mk (HL9b.out.set1 6 (.int .i64 (tt + 1)) { l2 with taken := tt + 1 } rfl rfl)
            have HOA := Aside0.mk (HO9b.out.set_ 6 (.int .i64 (tt + 1)))
            have HXA := Aside0.mk (blk_far (p := ⟨g, 6, none⟩) HX9b.out hbg (.int .i64 (tt + 1)))
            clear cS
            go_wp2_with ((with_reducible refine gate_builtin (b := .append) (xs := #[.tmp 142, .tmp 145]) rfl ?_); at_builtin; refine Kd.R_append Kd.string (w0 := W9.setCell ⟨g, 6, none⟩ (.int .i64 (tt + 1))) (W9.setCell ⟨g, 6, none⟩ (.int .i64 (tt + 1))).heap.size rfl (.tmp 142) (.tmp 145) 36 9 (.string ⟨#[]⟩) 16 rfl Try.underlying36 infoS rfl (by decide) (by omega) (.slice none 0 0) [] f4 [.string f4] (fun _ => True) (fun _ => False) rfl (by rw [World.size_setCell]; rfl) ?aP (fun _ hk => hk.elim) ?aF ?aO ?aB ?aS ?aL ?_)
            case aP => exact rfl
            case aF => exact (fun _ _ => trivial)
            case aO => exact Kd.R_nil _ _ _ _ _
            case aB => exact Below.refl _ _
            case aS => exact Nat.le_refl _
            case aL => decide
            intro v1 w1 ho hb hg hat
            have hsz9 := World.size_setCell W9 ⟨g, 6, none⟩ (.int .i64 (tt + 1))
            rw [← hsz9] at hb
            have HLB := Aside0.mk (HLA.out.below hb)
            have HOB := Aside0.mk (HOA.out.below hb)
            have HXB := Aside0.mk (blk_below HXA.out hb)
            have HSB := Aside0.mk (Kd.R_lower ho HO9b.out.1.size)
            have HGB : Aside0 (∀ kk, v1.ownBlock = some kk → ¬ kk = g) := ⟨fun kk hk e => by have h1 := Kd.R_base ho kk hk; have h2 := HL9b.out.lt; omega⟩
            obtain ⟨Ax, cx, ex⟩ := Kd.R_slice ho
            have ex : v1 = .slice Ax 1 cx := ex
            subst ex
            clear ho hb hg hat HLA HOA HXA z0 z1 z2 z3 z4 h0 h1 h2 h3 h4 h5 h6 h7 h8 g6
            obtain ⟨z0, z1, z2, z3, z4, _, _, _, _, _⟩ := bx5 HXB.out
            obtain ⟨h0, h1, h2, h3, h4, h5, h6, h7, h8⟩ := HLB.out.cells
            have g7 := HLB.out.frozen 7
            go_wp2
            go_ret2
            exact rtakePost1 HE.out (R_only rfl HSB.out ((Only.refl _ _).set_ 7 (.bool true)) HGB.out) (HLB.out.set1 7 (.bool true) { l2 with taken := tt + 1, owes := true } rfl rfl) (HOB.out.set_ 7 (.bool true))
          · have d3 : (f2 == tt + 1) = false := beq_eq_false_iff_ne.mpr cS
            by_cases cZ : f2 = 0
            · have d4 : (f2 != 0) = false := bne_eq_false_iff_eq.mpr cZ
              have HE : Aside0 (T = (l2, [], false)) := ⟨by rw [HT2.out]; unfold RlS.take1; rw [if_neg (by rw [HTT.out]; exact cS), if_neg (by rw [HTT.out]; exact cS), decide_eq_false (fun h => h cZ), Bool.or_false]⟩
              obtain ⟨z0, z1, z2, z3, z4, _, _, _, _, _⟩ := bx5 HX9b.out
              clear cS cZ
              go_wp2
              go_ret2
              exact rtakePost0 HE.out HL9b.out HO9b.out
            · have d4 : (f2 != 0) = true := bne_iff_ne.mpr cZ
              have HE : Aside0 (T = ({ l2 with owes := true }, [], false)) := ⟨by rw [HT2.out]; unfold RlS.take1; rw [if_neg (by rw [HTT.out]; exact cS), if_neg (by rw [HTT.out]; exact cS), decide_eq_true (show f2 ≠ 0 from cZ), Bool.or_true]⟩
              obtain ⟨z0, z1, z2, z3, z4, _, _, _, _, _⟩ := bx5 HX9b.out
              obtain ⟨h0, h1, h2, h3, h4, h5, h6, h7, h8⟩ := HL9b.out.cells
              have g7 := HL9b.out.frozen 7
              clear cS cZ
              go_wp2
              go_ret2
              exact rtakePost0 HE.out (HL9b.out.set1 7 (.bool true) { l2 with owes := true } rfl rfl) (HO9b.out.set_ 7 (.bool true))
      · by_cases hdk : 0 < du - (k : Int)
        · skip
          have HQ2 : Aside0 (Kd.string.Q 9 W7 b (fun _ => True) (.slice (some ⟨gq, oq + k, none⟩) (n - k) (cq - k)) (l1.wait.drop k)) := ⟨by have h := HQD.out; rw [if_neg hck] at h; have e : k * Kd.string.sz = k := Nat.mul_one k; rw [e, Option.map_some, add_at] at h; exact h⟩
          have hbg : b3 ≠ g := blk_ne HX7.out HL7.out.X (by decide)
          have hmv : max 0 (du - (k : Int)) = (du - (k : Int)) := by omega
          have HA : Aside0 (l1.ackd f3 = ({ l1 with wait := l1.wait.drop k, first := fi + (k : Int), out := ou - (k : Int), due := (du - (k : Int)), ticks := 0 } : RlS)) := ⟨by
            unfold RlS.ackd
            rw [HFI.out, HOU.out, HDU.out, hk, if_pos HCA.out, hmv]
            rfl⟩
          have HL8 := Aside0.mk (((((HL7.out.setV HQ2.out).set1 3 (.int .i64 (fi + (k : Int))) { l1 with wait := l1.wait.drop k, first := fi + (k : Int) } rfl rfl).set1 4 (.int .i64 (ou - (k : Int))) { l1 with wait := l1.wait.drop k, first := fi + (k : Int), out := ou - (k : Int) } rfl rfl).set1 5 (.int .i64 (du - (k : Int))) { l1 with wait := l1.wait.drop k, first := fi + (k : Int), out := ou - (k : Int), due := (du - (k : Int)) } rfl rfl).set1 8 (.int .i64 0) { l1 with wait := l1.wait.drop k, first := fi + (k : Int), out := ou - (k : Int), due := (du - (k : Int)), ticks := 0 } rfl rfl)
          have HO8 := Aside0.mk (((((HO7.out.setV (V2 := (.slice (some ⟨gq, oq + k, none⟩) (n - k) (cq - k))) rfl).set_ 3 (.int .i64 (fi + (k : Int)))).set_ 4 (.int .i64 (ou - (k : Int)))).set_ 5 (.int .i64 (du - (k : Int)))).set_ 8 (.int .i64 0))
          have HX8 := Aside0.mk (blk_far (p := ⟨g, 8, none⟩) (blk_far (p := ⟨g, 5, none⟩) (blk_far (p := ⟨g, 4, none⟩) (blk_far (p := ⟨g, 3, none⟩) (blk_far (p := ⟨g, 2, none⟩) HX7.out hbg ((.slice (some ⟨gq, oq + k, none⟩) (n - k) (cq - k)))) hbg (.int .i64 (fi + (k : Int)))) hbg (.int .i64 (ou - (k : Int)))) hbg (.int .i64 (du - (k : Int)))) hbg (.int .i64 0))
          have hdk3 : (k : Int) < du := by omega
          have hck2 : (cq = k) = False := eq_false hck
          have HTK : Aside0 (0 ≤ (l1.ackd f3).taken ∧ (l1.ackd f3).taken ≤ 9007199254740991) := ⟨by rw [HA.out]; exact HT01.out⟩
          clear hdk hmv HCA
          go_wp2
          generalize ((((W7.setCell ⟨g, 2, none⟩ (.slice (some ⟨gq, oq + k, none⟩) (n - k) (cq - k))).setCell ⟨g, 3, none⟩ (.int .i64 (fi + (k : Int)))).setCell ⟨g, 4, none⟩ (.int .i64 (ou - (k : Int)))).setCell ⟨g, 5, none⟩ (.int .i64 (du - (k : Int)))).setCell ⟨g, 8, none⟩ (.int .i64 0) = W8 at HL8 HO8 HX8 ⊢
          clear h0 h1 h2 h3 h4 h5 h6 h7 h8 g2 g3 g4 g5 g8 HQ2 HQD hdk3 hck2
          have HT2 : Aside0 (T = (({ l1 with wait := l1.wait.drop k, first := fi + (k : Int), out := ou - (k : Int), due := (du - (k : Int)), ticks := 0 } : RlS).take1 ⟨f0, f1, f2, f3, f4⟩, if f2 = ({ l1 with wait := l1.wait.drop k, first := fi + (k : Int), out := ou - (k : Int), due := (du - (k : Int)), ticks := 0 } : RlS).taken + 1 then [f4] else [], false)) := ⟨by rw [HT1.out, HA.out]⟩
          clear HT01
          have HT01 := HTK
          rw [HA.out] at HT01
          clear HTK
          generalize ({ l1 with wait := l1.wait.drop k, first := fi + (k : Int), out := ou - (k : Int), due := (du - (k : Int)), ticks := 0 } : RlS) = l2 at HT2 HL8 HT01
          clear HA
        -- what is taken: W8, HX8, HL8, HO8, l2, V8
          obtain ⟨tt, htt⟩ : ∃ tt, l2.taken = tt := ⟨_, rfl⟩
          have HTT := Aside0.mk htt
          have ht0 : 0 ≤ tt := by rw [← htt]; exact HT01.out.1
          have ht1 : tt ≤ 9007199254740991 := by rw [← htt]; exact HT01.out.2
          obtain ⟨oo, hoo⟩ : ∃ oo, l2.owes = oo := ⟨_, rfl⟩
          have HOO := Aside0.mk hoo
          clear htt hoo
          go_wp2
          obtain ⟨z0, z1, z2, z3, z4, _, _, _, _, _⟩ := bx5 HX8.out
          obtain ⟨h0, h1, h2, h3, h4, h5, h6, h7, h8⟩ := HL8.out.cells
          rw [HTT.out] at h6
          go_quiet (fail)
          have HX9b := Aside0.mk (blk_drewN HX8.out nq)
          have HL9b := Aside0.mk (HL8.out.drewN nq)
          have HO9b := Aside0.mk (HO8.out.below (pw_below_drewN (Below.refl _ _) nq))
          generalize W8.drewN nq = W9 at HX9b HL9b HO9b ⊢
          clear z0 z1 z2 z3 z4 h0 h1 h2 h3 h4 h5 h6 h7 h8
          by_cases cS : f2 = tt + 1
          · have d3 : (f2 == tt + 1) = true := beq_iff_eq.mpr cS
            have d4 : (f2 != 0) = true := bne_iff_ne.mpr (by omega)
            have HE : Aside0 (T = ({ l2 with taken := tt + 1, owes := true }, [f4], false)) := ⟨by rw [HT2.out]; unfold RlS.take1; rw [HTT.out, if_pos cS, if_pos cS, decide_eq_true (show f2 ≠ 0 by omega), Bool.or_true]⟩
            obtain ⟨z0, z1, z2, z3, z4, _, _, _, _, _⟩ := bx5 HX9b.out
            obtain ⟨h0, h1, h2, h3, h4, h5, h6, h7, h8⟩ := HL9b.out.cells
            rw [HTT.out] at h6
            have g6 := HL9b.out.frozen 6
            have hbg : b3 ≠ g := blk_ne HX9b.out HL9b.out.X (by decide)
            have hbg2 : g ≠ b3 := Ne.symm hbg
            have HLA := Aside0.mk (HL9b.out.set1 6 (.int .i64 (tt + 1)) { l2 with taken := tt + 1 } rfl rfl)
            have HOA := Aside0.mk (HO9b.out.set_ 6 (.int .i64 (tt + 1)))
            have HXA := Aside0.mk (blk_far (p := ⟨g, 6, none⟩) HX9b.out hbg (.int .i64 (tt + 1)))
            clear cS
            go_wp2_with ((with_reducible refine gate_builtin (b := .append) (xs := #[.tmp 142, .tmp 145]) rfl ?_); at_builtin; refine Kd.R_append Kd.string (w0 := W9.setCell ⟨g, 6, none⟩ (.int .i64 (tt + 1))) (W9.setCell ⟨g, 6, none⟩ (.int .i64 (tt + 1))).heap.size rfl (.tmp 142) (.tmp 145) 36 9 (.string ⟨#[]⟩) 16 rfl Try.underlying36 infoS rfl (by decide) (by omega) (.slice none 0 0) [] f4 [.string f4] (fun _ => True) (fun _ => False) rfl (by rw [World.size_setCell]; rfl) ?aP (fun _ hk => hk.elim) ?aF ?aO ?aB ?aS ?aL ?_)
            case aP => exact rfl
            case aF => exact (fun _ _ => trivial)
            case aO => exact Kd.R_nil _ _ _ _ _
            case aB => exact Below.refl _ _
            case aS => exact Nat.le_refl _
            case aL => decide
            intro v1 w1 ho hb hg hat
            have hsz9 := World.size_setCell W9 ⟨g, 6, none⟩ (.int .i64 (tt + 1))
            rw [← hsz9] at hb
            have HLB := Aside0.mk (HLA.out.below hb)
            have HOB := Aside0.mk (HOA.out.below hb)
            have HXB := Aside0.mk (blk_below HXA.out hb)
            have HSB := Aside0.mk (Kd.R_lower ho HO9b.out.1.size)
            have HGB : Aside0 (∀ kk, v1.ownBlock = some kk → ¬ kk = g) := ⟨fun kk hk e => by have h1 := Kd.R_base ho kk hk; have h2 := HL9b.out.lt; omega⟩
            obtain ⟨Ax, cx, ex⟩ := Kd.R_slice ho
            have ex : v1 = .slice Ax 1 cx := ex
            subst ex
            clear ho hb hg hat HLA HOA HXA z0 z1 z2 z3 z4 h0 h1 h2 h3 h4 h5 h6 h7 h8 g6
            obtain ⟨z0, z1, z2, z3, z4, _, _, _, _, _⟩ := bx5 HXB.out
            obtain ⟨h0, h1, h2, h3, h4, h5, h6, h7, h8⟩ := HLB.out.cells
            have g7 := HLB.out.frozen 7
            go_wp2
            go_ret2
            exact rtakePost1 HE.out (R_only rfl HSB.out ((Only.refl _ _).set_ 7 (.bool true)) HGB.out) (HLB.out.set1 7 (.bool true) { l2 with taken := tt + 1, owes := true } rfl rfl) (HOB.out.set_ 7 (.bool true))
          · have d3 : (f2 == tt + 1) = false := beq_eq_false_iff_ne.mpr cS
            by_cases cZ : f2 = 0
            · have d4 : (f2 != 0) = false := bne_eq_false_iff_eq.mpr cZ
              have HE : Aside0 (T = (l2, [], false)) := ⟨by rw [HT2.out]; unfold RlS.take1; rw [if_neg (by rw [HTT.out]; exact cS), if_neg (by rw [HTT.out]; exact cS), decide_eq_false (fun h => h cZ), Bool.or_false]⟩
              obtain ⟨z0, z1, z2, z3, z4, _, _, _, _, _⟩ := bx5 HX9b.out
              clear cS cZ
              go_wp2
              go_ret2
              exact rtakePost0 HE.out HL9b.out HO9b.out
            · have d4 : (f2 != 0) = true := bne_iff_ne.mpr cZ
              have HE : Aside0 (T = ({ l2 with owes := true }, [], false)) := ⟨by rw [HT2.out]; unfold RlS.take1; rw [if_neg (by rw [HTT.out]; exact cS), if_neg (by rw [HTT.out]; exact cS), decide_eq_true (show f2 ≠ 0 from cZ), Bool.or_true]⟩
              obtain ⟨z0, z1, z2, z3, z4, _, _, _, _, _⟩ := bx5 HX9b.out
              obtain ⟨h0, h1, h2, h3, h4, h5, h6, h7, h8⟩ := HL9b.out.cells
              have g7 := HL9b.out.frozen 7
              clear cS cZ
              go_wp2
              go_ret2
              exact rtakePost0 HE.out (HL9b.out.set1 7 (.bool true) { l2 with owes := true } rfl rfl) (HO9b.out.set_ 7 (.bool true))
        · skip
          have HQ2 : Aside0 (Kd.string.Q 9 W7 b (fun _ => True) (.slice (some ⟨gq, oq + k, none⟩) (n - k) (cq - k)) (l1.wait.drop k)) := ⟨by have h := HQD.out; rw [if_neg hck] at h; have e : k * Kd.string.sz = k := Nat.mul_one k; rw [e, Option.map_some, add_at] at h; exact h⟩
          have hbg : b3 ≠ g := blk_ne HX7.out HL7.out.X (by decide)
          have hmv : max 0 (du - (k : Int)) = 0 := by omega
          have HA : Aside0 (l1.ackd f3 = ({ l1 with wait := l1.wait.drop k, first := fi + (k : Int), out := ou - (k : Int), due := 0, ticks := 0 } : RlS)) := ⟨by
            unfold RlS.ackd
            rw [HFI.out, HOU.out, HDU.out, hk, if_pos HCA.out, hmv]
            rfl⟩
          have HL8 := Aside0.mk (((((HL7.out.setV HQ2.out).set1 3 (.int .i64 (fi + (k : Int))) { l1 with wait := l1.wait.drop k, first := fi + (k : Int) } rfl rfl).set1 4 (.int .i64 (ou - (k : Int))) { l1 with wait := l1.wait.drop k, first := fi + (k : Int), out := ou - (k : Int) } rfl rfl).set1 5 (.int .i64 0) { l1 with wait := l1.wait.drop k, first := fi + (k : Int), out := ou - (k : Int), due := 0 } rfl rfl).set1 8 (.int .i64 0) { l1 with wait := l1.wait.drop k, first := fi + (k : Int), out := ou - (k : Int), due := 0, ticks := 0 } rfl rfl)
          have HO8 := Aside0.mk (((((HO7.out.setV (V2 := (.slice (some ⟨gq, oq + k, none⟩) (n - k) (cq - k))) rfl).set_ 3 (.int .i64 (fi + (k : Int)))).set_ 4 (.int .i64 (ou - (k : Int)))).set_ 5 (.int .i64 0)).set_ 8 (.int .i64 0))
          have HX8 := Aside0.mk (blk_far (p := ⟨g, 8, none⟩) (blk_far (p := ⟨g, 5, none⟩) (blk_far (p := ⟨g, 4, none⟩) (blk_far (p := ⟨g, 3, none⟩) (blk_far (p := ⟨g, 2, none⟩) HX7.out hbg ((.slice (some ⟨gq, oq + k, none⟩) (n - k) (cq - k)))) hbg (.int .i64 (fi + (k : Int)))) hbg (.int .i64 (ou - (k : Int)))) hbg (.int .i64 0)) hbg (.int .i64 0))
          have hdk3 : du ≤ (k : Int) := by omega
          have hck2 : (cq = k) = False := eq_false hck
          have HTK : Aside0 (0 ≤ (l1.ackd f3).taken ∧ (l1.ackd f3).taken ≤ 9007199254740991) := ⟨by rw [HA.out]; exact HT01.out⟩
          clear hdk hmv HCA
          go_wp2
          generalize ((((W7.setCell ⟨g, 2, none⟩ (.slice (some ⟨gq, oq + k, none⟩) (n - k) (cq - k))).setCell ⟨g, 3, none⟩ (.int .i64 (fi + (k : Int)))).setCell ⟨g, 4, none⟩ (.int .i64 (ou - (k : Int)))).setCell ⟨g, 5, none⟩ (.int .i64 0)).setCell ⟨g, 8, none⟩ (.int .i64 0) = W8 at HL8 HO8 HX8 ⊢
          clear h0 h1 h2 h3 h4 h5 h6 h7 h8 g2 g3 g4 g5 g8 HQ2 HQD hdk3 hck2
          have HT2 : Aside0 (T = (({ l1 with wait := l1.wait.drop k, first := fi + (k : Int), out := ou - (k : Int), due := 0, ticks := 0 } : RlS).take1 ⟨f0, f1, f2, f3, f4⟩, if f2 = ({ l1 with wait := l1.wait.drop k, first := fi + (k : Int), out := ou - (k : Int), due := 0, ticks := 0 } : RlS).taken + 1 then [f4] else [], false)) := ⟨by rw [HT1.out, HA.out]⟩
          clear HT01
          have HT01 := HTK
          rw [HA.out] at HT01
          clear HTK
          generalize ({ l1 with wait := l1.wait.drop k, first := fi + (k : Int), out := ou - (k : Int), due := 0, ticks := 0 } : RlS) = l2 at HT2 HL8 HT01
          clear HA
        -- what is taken: W8, HX8, HL8, HO8, l2, V8
          obtain ⟨tt, htt⟩ : ∃ tt, l2.taken = tt := ⟨_, rfl⟩
          have HTT := Aside0.mk htt
          have ht0 : 0 ≤ tt := by rw [← htt]; exact HT01.out.1
          have ht1 : tt ≤ 9007199254740991 := by rw [← htt]; exact HT01.out.2
          obtain ⟨oo, hoo⟩ : ∃ oo, l2.owes = oo := ⟨_, rfl⟩
          have HOO := Aside0.mk hoo
          clear htt hoo
          go_wp2
          obtain ⟨z0, z1, z2, z3, z4, _, _, _, _, _⟩ := bx5 HX8.out
          obtain ⟨h0, h1, h2, h3, h4, h5, h6, h7, h8⟩ := HL8.out.cells
          rw [HTT.out] at h6
          go_quiet (fail)
          have HX9b := Aside0.mk (blk_drewN HX8.out nq)
          have HL9b := Aside0.mk (HL8.out.drewN nq)
          have HO9b := Aside0.mk (HO8.out.below (pw_below_drewN (Below.refl _ _) nq))
          generalize W8.drewN nq = W9 at HX9b HL9b HO9b ⊢
          clear z0 z1 z2 z3 z4 h0 h1 h2 h3 h4 h5 h6 h7 h8
          by_cases cS : f2 = tt + 1
          · have d3 : (f2 == tt + 1) = true := beq_iff_eq.mpr cS
            have d4 : (f2 != 0) = true := bne_iff_ne.mpr (by omega)
            have HE : Aside0 (T = ({ l2 with taken := tt + 1, owes := true }, [f4], false)) := ⟨by rw [HT2.out]; unfold RlS.take1; rw [HTT.out, if_pos cS, if_pos cS, decide_eq_true (show f2 ≠ 0 by omega), Bool.or_true]⟩
            obtain ⟨z0, z1, z2, z3, z4, _, _, _, _, _⟩ := bx5 HX9b.out
            obtain ⟨h0, h1, h2, h3, h4, h5, h6, h7, h8⟩ := HL9b.out.cells
            rw [HTT.out] at h6
            have g6 := HL9b.out.frozen 6
            have hbg : b3 ≠ g := blk_ne HX9b.out HL9b.out.X (by decide)
            have hbg2 : g ≠ b3 := Ne.symm hbg
            have HLA := Aside0.mk (HL9b.out.set1 6 (.int .i64 (tt + 1)) { l2 with taken := tt + 1 } rfl rfl)
            have HOA := Aside0.mk (HO9b.out.set_ 6 (.int .i64 (tt + 1)))
            have HXA := Aside0.mk (blk_far (p := ⟨g, 6, none⟩) HX9b.out hbg (.int .i64 (tt + 1)))
            clear cS
            go_wp2_with ((with_reducible refine gate_builtin (b := .append) (xs := #[.tmp 142, .tmp 145]) rfl ?_); at_builtin; refine Kd.R_append Kd.string (w0 := W9.setCell ⟨g, 6, none⟩ (.int .i64 (tt + 1))) (W9.setCell ⟨g, 6, none⟩ (.int .i64 (tt + 1))).heap.size rfl (.tmp 142) (.tmp 145) 36 9 (.string ⟨#[]⟩) 16 rfl Try.underlying36 infoS rfl (by decide) (by omega) (.slice none 0 0) [] f4 [.string f4] (fun _ => True) (fun _ => False) rfl (by rw [World.size_setCell]; rfl) ?aP (fun _ hk => hk.elim) ?aF ?aO ?aB ?aS ?aL ?_)
            case aP => exact rfl
            case aF => exact (fun _ _ => trivial)
            case aO => exact Kd.R_nil _ _ _ _ _
            case aB => exact Below.refl _ _
            case aS => exact Nat.le_refl _
            case aL => decide
            intro v1 w1 ho hb hg hat
            have hsz9 := World.size_setCell W9 ⟨g, 6, none⟩ (.int .i64 (tt + 1))
            rw [← hsz9] at hb
            have HLB := Aside0.mk (HLA.out.below hb)
            have HOB := Aside0.mk (HOA.out.below hb)
            have HXB := Aside0.mk (blk_below HXA.out hb)
            have HSB := Aside0.mk (Kd.R_lower ho HO9b.out.1.size)
            have HGB : Aside0 (∀ kk, v1.ownBlock = some kk → ¬ kk = g) := ⟨fun kk hk e => by have h1 := Kd.R_base ho kk hk; have h2 := HL9b.out.lt; omega⟩
            obtain ⟨Ax, cx, ex⟩ := Kd.R_slice ho
            have ex : v1 = .slice Ax 1 cx := ex
            subst ex
            clear ho hb hg hat HLA HOA HXA z0 z1 z2 z3 z4 h0 h1 h2 h3 h4 h5 h6 h7 h8 g6
            obtain ⟨z0, z1, z2, z3, z4, _, _, _, _, _⟩ := bx5 HXB.out
            obtain ⟨h0, h1, h2, h3, h4, h5, h6, h7, h8⟩ := HLB.out.cells
            have g7 := HLB.out.frozen 7
            go_wp2
            go_ret2
            exact rtakePost1 HE.out (R_only rfl HSB.out ((Only.refl _ _).set_ 7 (.bool true)) HGB.out) (HLB.out.set1 7 (.bool true) { l2 with taken := tt + 1, owes := true } rfl rfl) (HOB.out.set_ 7 (.bool true))
          · have d3 : (f2 == tt + 1) = false := beq_eq_false_iff_ne.mpr cS
            by_cases cZ : f2 = 0
            · have d4 : (f2 != 0) = false := bne_eq_false_iff_eq.mpr cZ
              have HE : Aside0 (T = (l2, [], false)) := ⟨by rw [HT2.out]; unfold RlS.take1; rw [if_neg (by rw [HTT.out]; exact cS), if_neg (by rw [HTT.out]; exact cS), decide_eq_false (fun h => h cZ), Bool.or_false]⟩
              obtain ⟨z0, z1, z2, z3, z4, _, _, _, _, _⟩ := bx5 HX9b.out
              clear cS cZ
              go_wp2
              go_ret2
              exact rtakePost0 HE.out HL9b.out HO9b.out
            · have d4 : (f2 != 0) = true := bne_iff_ne.mpr cZ
              have HE : Aside0 (T = ({ l2 with owes := true }, [], false)) := ⟨by rw [HT2.out]; unfold RlS.take1; rw [if_neg (by rw [HTT.out]; exact cS), if_neg (by rw [HTT.out]; exact cS), decide_eq_true (show f2 ≠ 0 from cZ), Bool.or_true]⟩
              obtain ⟨z0, z1, z2, z3, z4, _, _, _, _, _⟩ := bx5 HX9b.out
              obtain ⟨h0, h1, h2, h3, h4, h5, h6, h7, h8⟩ := HL9b.out.cells
              have g7 := HL9b.out.frozen 7
              clear cS cZ
              go_wp2
              go_ret2
              exact rtakePost0 HE.out (HL9b.out.set1 7 (.bool true) { l2 with owes := true } rfl rfl) (HO9b.out.set_ 7 (.bool true))

end Go.Proofs.Ytdpogggajdfedaa.P
