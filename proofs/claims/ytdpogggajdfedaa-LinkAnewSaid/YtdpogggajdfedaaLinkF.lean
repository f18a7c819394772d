import Derived.Test.YtdpogggajdfedaaLinkE
import Derived.Outline
import Derived.Laws.BitsAllLaws
import Derived.WalkSpells
import Derived.StillTailTactics
namespace Go.Proofs.Ytdpogggajdfedaa.P
open Go.RowKit Go.Proofs.YtdpogggajdfedaaW.PrintWords Go.Proofs.YtdpogggajdfedaaW.PrintLast Go.Proofs.YtdpogggajdfedaaW.PrintMore
attribute [local go_sem] max2_int min2_int max_two min_two max_three min_three max_four min_four
set_option linter.unusedVariables false
set_option linter.unusedSimpArgs false
def tkR.T1 : Bool × List (List Nat × List Nat) := (true, [([], []), ([0], [0]), ([1], [1]), ([2, 1], [2]), ([3], [3]), ([4, 3], [3, 4]), ([3], [3]), ([6, 3], [3, 6]), ([7, 3], [3, 7]), ([8, 3], [3, 8]), ([5, 9, 3], [3, 5, 9]), ([3, 10], [3, 10])])
def tkR.B1 : List Nat := [0, 1, 3, 7, 15, 31, 15, 79, 207, 463, 1023, 2047]
theorem tkR.tab1 : rtab .any (opsOf Try.f18 1) = tkR.T1 := by kernel_rfl
theorem tkR.bits1 : waitsOk tkR.T1.2 tkR.B1 = true := by kernel_rfl
/-- What Take answers. -/
def TakePost (w : World) (b g : Nat) (V : Value) (T : LkS × List ByteArray × Bool) (e : Ending) (w' : World) : Prop :=
  ∃ A c, e = .returned (.tuple #[.slice A T.2.1.length c, .bool T.2.2]) ∧ Kd.string.R 9 w' w.heap.size (fun _ => True) (.slice A T.2.1.length c) T.2.1 ∧ ∃ V', LkIs w' b g T.1 V' ∧ LkOnly w w' g V V'
theorem R_oneS {w : World} {b k : Nat} {s : ByteArray} (hb : b ≤ k) (hs : w.heap[k]? = some (.cells #[.string s] 9 (0, 0))) : Kd.string.R 9 w b (fun _ => True) (.slice (some ⟨k, 0, none⟩) 1 1) [s] :=
  Kd.R_of_own (enc := Value.string) (h1 := fun _ => rfl) (show w.ownsRow b 9 1 (.slice (some ⟨k, 0, none⟩) 1 1) 1 [.string s] from ⟨rfl, .inr ⟨k, 1, #[.string s], rfl, hb, hs, by decide, by decide, rfl, rfl⟩⟩) (fun _ _ => trivial)
theorem takePost0 {w w' : World} {b g : Nat} {V V' : Value} {T : LkS × List ByteArray × Bool} {l : LkS} {r : Bool} (hT : T = (l, [], r)) (h : LkIs w' b g l V') (ho : LkOnly w w' g V V') : TakePost w b g V T (.returned (.tuple #[.slice none 0 0, .bool r])) w' := by
  subst hT
  exact ⟨none, 0, rfl, Kd.R_nil _ _ _ _ _, V', h, ho⟩
theorem takePost1 {w w' : World} {b g k : Nat} {V V' : Value} {T : LkS × List ByteArray × Bool} {l : LkS} {r : Bool} {s : ByteArray} (hT : T = (l, [s], r)) (hk : w.heap.size ≤ k) (hs : w'.heap[k]? = some (.cells #[.string s] 9 (0, 0))) (h : LkIs w' b g l V') (ho : LkOnly w w' g V V') : TakePost w b g V T (.returned (.tuple #[.slice (some ⟨k, 0, none⟩) 1 1, .bool r])) w' := by
  subst hT
  exact ⟨some ⟨k, 0, none⟩, 1, rfl, R_oneS hk hs, V', h, ho⟩
theorem meet_epoch (l : LkS) (e : Int) : (l.meet e).epoch = l.epoch := by
  unfold LkS.meet
  split
  · split <;> rfl
  · rfl
theorem LkOnly.box {w w' : World} {g k t : Nat} {l : LkS} {b : Nat} {V V' : Value} {C : Array Value} (h : LkOnly w w' g V V') (hl : LkIs w b g l V) (hX : w.heap[k]? = some (.cells C t (0, 0))) (ht : t ≠ 63) (ht2 : t ≠ 65) : w'.heap[k]? = some (.cells C t (0, 0)) :=
  h.1.blk hX (fun e => e.elim (fun e => blk_ne hX hl.X ht e) (hl.neT hX ht2))
set_option maxHeartbeats 16000000 in
set_option maxRecDepth 100000 in
theorem take_no (b g : Nat) (l : LkS) (V : Value) (f0 f1 f2 f3 : Int) (f4 : ByteArray) (T : LkS × List ByteArray × Bool) (w : World) (H : Aside0 (LkIs w b g l V)) (hl : Aside0 l.Ok) (HT : Aside0 (l.take ⟨f0, f1, f2, f3, f4⟩ = T)) (hf0 : -9223372036854775808 ≤ f0) (HRF : Aside0 (decide (RightF ⟨f0, f1, f2, f3, f4⟩) = false)) :
    Calls Try.prog 18 #[.pointer (some ⟨g, 0, none⟩), .agg #[.int .i64 f0, .int .i64 f1, .int .i64 f2, .int .i64 f3, .string f4]] w (TakePost w b g V T) := by
  have HRT : Aside0 (∀ W, Calls Try.prog 29 #[.agg #[.int .i64 f0, .int .i64 f1, .int .i64 f2, .int .i64 f3, .string f4]] W fun e w' => e = .returned (.bool false) ∧ Below W.heap.size W w') := ⟨fun W => link_right.calls f0 f1 f2 f3 f4 false W (by have := right_is ⟨f0, f1, f2, f3, f4⟩ hf0; rw [HRF.out] at this; exact this)⟩
  have HB0 := Aside0.mk (below_alloc (Below.refl w.heap.size w) (.cells #[.int .i64 f0, .int .i64 f1, .int .i64 f2, .int .i64 f3, .string f4] 46))
  have HX0 := Aside0.mk (heap_alloc_new w (.cells #[.int .i64 f0, .int .i64 f1, .int .i64 f2, .int .i64 f3, .string f4] 46))
  have HL0 := Aside0.mk (H.out.alloc (.cells #[.int .i64 f0, .int .i64 f1, .int .i64 f2, .int .i64 f3, .string f4] 46))
  obtain ⟨b3, hb3⟩ : ∃ b3, w.heap.size = b3 := ⟨_, rfl⟩
  rw [hb3] at HX0
  clear hf0
  go_enter Try.func18, Try.ntmps18
  go_wp2
  try rw [hb3]
  clear hb3
  generalize w.alloc (.cells #[.int .i64 f0, .int .i64 f1, .int .i64 f2, .int .i64 f3, .string f4] 46) = W0 at HX0 HL0 HB0 ⊢
  refine start_ (n := 12) (S := fun W => W.heap[b3]? = some (.cells #[.int .i64 f0, .int .i64 f1, .int .i64 f2, .int .i64 f3, .string f4] 46 (0, 0)) ∧ LkIs W b g l V) (ds := []) (bz 12 0) (by kernel_rfl) rfl rfl ⟨blk_drew HX0.out, HL0.out.drew⟩ (fun hHeld => ?_); refine with_tabW tkR.tab1 tkR.bits1 (fun HT_ HW_ => ?_)
  have HBd := Aside0.mk (below_drew HB0.out)
  generalize World.drew _ = W8 at hHeld HBd ⊢
  refine take_ (i := 0) (N := (some 6)) (v := ?_) (a' := ?_) (bz 12 1) rfl rfl (take_ofW HT_.out HW_.out (by kernel_rfl)) (fun _ _ _ h => h) (Or.inl ⟨by rfl, ?_⟩) hHeld ?_ ?_
  rotate_left
  · rintro w' ⟨s0, s1⟩
    obtain ⟨z0, z1, z2, z3, z4, _, _, _, _, _⟩ := bx5 s0
    go_simp
    with_reducible rfl
  rotate_left
  · simp only [Act.put, sl1, sl2, sl3, i64_w, i32_w]
    rfl
  refine one_ (i := 1) (N := (some 7)) (bz 12 3) rfl rfl (one_of HT_.out (by kernel_rfl)) (by decide) (fun K hK => ?_)
  refine goes_ Try.func29 (by kernel_rfl) rfl #[.agg #[.int .i64 f0, .int .i64 f1, .int .i64 f2, .int .i64 f3, .string f4]] (by rfl) rfl rfl am ?_
  refine (HRT.out _).mono ?_
  rintro e w1 ⟨rfl, hb⟩
  refine ⟨_, rfl, ?_⟩
  have HBW := Aside0.mk (HBd.out.trans (hb.mono HBd.out.size))
  refine hK.out _ _ ⟨blk_below hHeld.1 hb, hHeld.2.below hb⟩ (fun hHeld => ?_)
  clear hK K
  refine norm_ (a' := ?_) ?_ ?_
  rotate_left
  · show Act.put _ (some 7) _ = _
    simp only [Act.put, sl1, sl2, sl3, i64_w, i32_w]
    rfl
  refine pu_ 2 (some 8) (bz 12 7) HT_.out ?_
  refine pu_ 3 (some 9) (bz 12 15) HT_.out ?_
  refine pu_ 4 (some 10) (bz 12 31) HT_.out ?_ (v := undef) (hy := Or.inr ⟨by rfl, rfl⟩)
  refine pu_ 5 (some 11) (bz 12 63) HT_.out ?_ (v := undef) (hy := Or.inr ⟨by rfl, rfl⟩)
  refine pu_ 6 (some 12) (bz 12 127) HT_.out ?_ (v := undef) (hy := Or.inr ⟨by rfl, rfl⟩)
  refine pu_ 7 (some 13) (bz 12 255) HT_.out ?_ (v := undef) (hy := Or.inr ⟨by rfl, rfl⟩)
  refine pu_ 8 (some 14) (bz 12 511) HT_.out ?_ (v := undef) (hy := Or.inr ⟨by rfl, rfl⟩)
  refine pu_ 9 (some 15) (bz 12 1023) HT_.out ?_ (v := undef) (hy := Or.inr ⟨by rfl, rfl⟩)
  refine pu_ 10 (some 16) (bz 12 2047) HT_.out ?_ (v := undef) (hy := Or.inr ⟨by rfl, rfl⟩)
  refine pu_ 11 (some 17) (bz 12 4095) HT_.out ?_
  refine done_ (done_of HT_.out (by kernel_rfl)) ?_
  obtain ⟨hX9, hL9⟩ := hHeld
  have HX9 := Aside0.mk hX9
  have HL9 := Aside0.mk hL9
  clear HT_ HW_ hX9 hL9 hb HX0 HL0 HB0 HBd HRT
  go_wp2
  go_ret2
  exact takePost0 (by rw [← HT.out]; unfold LkS.take; exact if_pos (.inl (of_decide_eq_false HRF.out))) HL9.out (LkOnly.of_below HBW.out)
set_option maxHeartbeats 16000000 in
set_option maxRecDepth 100000 in
theorem take_old (b g : Nat) (l : LkS) (V : Value) (f0 f1 f2 f3 : Int) (f4 : ByteArray) (T : LkS × List ByteArray × Bool) (w : World) (H : Aside0 (LkIs w b g l V)) (hl : Aside0 l.Ok) (HT : Aside0 (l.take ⟨f0, f1, f2, f3, f4⟩ = T)) (hf0 : -9223372036854775808 ≤ f0) (HRF : Aside0 (decide (RightF ⟨f0, f1, f2, f3, f4⟩) = true)) (HC : f0 < l.peer) :
    Calls Try.prog 18 #[.pointer (some ⟨g, 0, none⟩), .agg #[.int .i64 f0, .int .i64 f1, .int .i64 f2, .int .i64 f3, .string f4]] w (TakePost w b g V T) := by
  have d1 : decide (f0 < l.peer) = true := decide_eq_true HC
  have HRT : Aside0 (∀ W, Calls Try.prog 29 #[.agg #[.int .i64 f0, .int .i64 f1, .int .i64 f2, .int .i64 f3, .string f4]] W fun e w' => e = .returned (.bool true) ∧ Below W.heap.size W w') := ⟨fun W => link_right.calls f0 f1 f2 f3 f4 true W (by have := right_is ⟨f0, f1, f2, f3, f4⟩ hf0; rw [HRF.out] at this; exact this)⟩
  have HB0 := Aside0.mk (below_alloc (Below.refl w.heap.size w) (.cells #[.int .i64 f0, .int .i64 f1, .int .i64 f2, .int .i64 f3, .string f4] 46))
  have HX0 := Aside0.mk (heap_alloc_new w (.cells #[.int .i64 f0, .int .i64 f1, .int .i64 f2, .int .i64 f3, .string f4] 46))
  have HL0 := Aside0.mk (H.out.alloc (.cells #[.int .i64 f0, .int .i64 f1, .int .i64 f2, .int .i64 f3, .string f4] 46))
  obtain ⟨b3, hb3⟩ : ∃ b3, w.heap.size = b3 := ⟨_, rfl⟩
  rw [hb3] at HX0
  clear hf0
  go_enter Try.func18, Try.ntmps18
  go_wp2
  try rw [hb3]
  clear hb3
  generalize w.alloc (.cells #[.int .i64 f0, .int .i64 f1, .int .i64 f2, .int .i64 f3, .string f4] 46) = W0 at HX0 HL0 HB0 ⊢
  refine start_ (n := 12) (S := fun W => W.heap[b3]? = some (.cells #[.int .i64 f0, .int .i64 f1, .int .i64 f2, .int .i64 f3, .string f4] 46 (0, 0)) ∧ LkIs W b g l V) (ds := []) (bz 12 0) (by kernel_rfl) rfl rfl ⟨blk_drew HX0.out, HL0.out.drew⟩ (fun hHeld => ?_); refine with_tabW tkR.tab1 tkR.bits1 (fun HT_ HW_ => ?_)
  have HBd := Aside0.mk (below_drew HB0.out)
  generalize World.drew _ = W8 at hHeld HBd ⊢
  refine take_ (i := 0) (N := (some 6)) (v := ?_) (a' := ?_) (bz 12 1) rfl rfl (take_ofW HT_.out HW_.out (by kernel_rfl)) (fun _ _ _ h => h) (Or.inl ⟨by rfl, ?_⟩) hHeld ?_ ?_
  rotate_left
  · rintro w' ⟨s0, s1⟩
    obtain ⟨z0, z1, z2, z3, z4, _, _, _, _, _⟩ := bx5 s0
    go_simp
    with_reducible rfl
  rotate_left
  · simp only [Act.put, sl1, sl2, sl3, i64_w, i32_w]
    rfl
  refine one_ (i := 1) (N := (some 7)) (bz 12 3) rfl rfl (one_of HT_.out (by kernel_rfl)) (by decide) (fun K hK => ?_)
  refine goes_ Try.func29 (by kernel_rfl) rfl #[.agg #[.int .i64 f0, .int .i64 f1, .int .i64 f2, .int .i64 f3, .string f4]] (by rfl) rfl rfl am ?_
  refine (HRT.out _).mono ?_
  rintro e w1 ⟨rfl, hb⟩
  refine ⟨_, rfl, ?_⟩
  have HBW := Aside0.mk (HBd.out.trans (hb.mono HBd.out.size))
  refine hK.out _ _ ⟨blk_below hHeld.1 hb, hHeld.2.below hb⟩ (fun hHeld => ?_)
  clear hK K
  refine norm_ (a' := ?_) ?_ ?_
  rotate_left
  · show Act.put _ (some 7) _ = _
    simp only [Act.put, sl1, sl2, sl3, i64_w, i32_w]
    rfl
  refine pu_ 2 (some 8) (bz 12 7) HT_.out ?_
  refine pu_ 3 (some 9) (bz 12 15) HT_.out ?_
  refine pu_ 4 (some 10) (bz 12 31) HT_.out ?_
  refine pu_ 6 (some 12) (bz 12 95) HT_.out ?_
  refine pu_ 7 (some 13) (bz 12 223) HT_.out ?_
  refine pu_ 8 (some 14) (bz 12 479) HT_.out ?_
  refine take_ (i := 5) (N := (some 11)) (v := ?_) (a' := ?_) (bz 12 511) rfl rfl (take_ofW HT_.out HW_.out (by kernel_rfl)) (fun _ _ _ h => h) (Or.inl ⟨by rfl, ?_⟩) hHeld ?_ ?_
  rotate_left
  · rintro w' ⟨s0, s1⟩
    obtain ⟨z0, z1, z2, z3, z4, _, _, _, _, _⟩ := bx5 s0
    go_simp
    with_reducible rfl
  rotate_left
  · simp only [Act.put, sl1, sl2, sl3, i64_w, i32_w]
    rfl
  refine take_ (i := 9) (N := (some 15)) (v := ?_) (a' := ?_) (bz 12 1023) rfl rfl (take_ofW HT_.out HW_.out (by kernel_rfl)) (fun _ _ _ h => h) (Or.inl ⟨by rfl, ?_⟩) hHeld ?_ ?_
  rotate_left
  · rintro w' ⟨s0, s1⟩
    obtain ⟨z0, z1, z2, z3, z4, z5, z6⟩ := s1.cells
    go_simp
    with_reducible rfl
  rotate_left
  · simp only [Act.put, sl1, sl2, sl3, i64_w, i32_w]
    rfl
  refine pu_ 10 (some 16) (bz 12 2047) HT_.out ?_
  refine pu_ 11 (some 17) (bz 12 4095) HT_.out ?_
  refine done_ (done_of HT_.out (by kernel_rfl)) ?_
  obtain ⟨hX9, hL9⟩ := hHeld
  have HX9 := Aside0.mk hX9
  have HL9 := Aside0.mk hL9
  clear HT_ HW_ hX9 hL9 hb HX0 HL0 HB0 HBd HRT
  go_wp2
  go_ret2
  exact takePost0 (by rw [← HT.out]; unfold LkS.take; exact if_pos (.inr HC)) HL9.out (LkOnly.of_below HBW.out)
set_option maxHeartbeats 16000000 in
set_option maxRecDepth 100000 in
theorem take_same (b g : Nat) (l : LkS) (V : Value) (f0 f1 f2 f3 : Int) (f4 : ByteArray) (T : LkS × List ByteArray × Bool) (w : World) (H : Aside0 (LkIs w b g l V)) (hl : Aside0 l.Ok) (HT : Aside0 (l.take ⟨f0, f1, f2, f3, f4⟩ = T)) (hf0 : -9223372036854775808 ≤ f0) (HRF : Aside0 (decide (RightF ⟨f0, f1, f2, f3, f4⟩) = true)) (HC : l.peer ≤ f0) (HS : f0 ≤ l.peer) :
    Calls Try.prog 18 #[.pointer (some ⟨g, 0, none⟩), .agg #[.int .i64 f0, .int .i64 f1, .int .i64 f2, .int .i64 f3, .string f4]] w (TakePost w b g V T) := by
  have hRF : RightF ⟨f0, f1, f2, f3, f4⟩ := of_decide_eq_true HRF.out
  have hf3 : 0 ≤ f3 ∧ f3 ≤ 9007199254740991 := ⟨hRF.2.2.2.2.2.2.1, hRF.2.2.2.2.2.2.2.1⟩
  have hf1 : 1 ≤ f0 := hRF.1
  have HNO : Aside0 (¬ (¬ RightF ⟨f0, f1, f2, f3, f4⟩ ∨ f0 < l.peer)) := ⟨fun h => h.elim (fun h => h hRF) (Int.not_lt.mpr HC)⟩
  clear hRF
  have d1 : decide (f0 < l.peer) = false := decide_eq_false (Int.not_lt.mpr HC)
  have HRT : Aside0 (∀ W, Calls Try.prog 29 #[.agg #[.int .i64 f0, .int .i64 f1, .int .i64 f2, .int .i64 f3, .string f4]] W fun e w' => e = .returned (.bool true) ∧ Below W.heap.size W w') := ⟨fun W => link_right.calls f0 f1 f2 f3 f4 true W (by have := right_is ⟨f0, f1, f2, f3, f4⟩ hf0; rw [HRF.out] at this; exact this)⟩
  have HB0 := Aside0.mk (below_alloc (Below.refl w.heap.size w) (.cells #[.int .i64 f0, .int .i64 f1, .int .i64 f2, .int .i64 f3, .string f4] 46))
  have HX0 := Aside0.mk (heap_alloc_new w (.cells #[.int .i64 f0, .int .i64 f1, .int .i64 f2, .int .i64 f3, .string f4] 46))
  have HL0 := Aside0.mk (H.out.alloc (.cells #[.int .i64 f0, .int .i64 f1, .int .i64 f2, .int .i64 f3, .string f4] 46))
  obtain ⟨b3, hb3⟩ : ∃ b3, w.heap.size = b3 := ⟨_, rfl⟩
  rw [hb3] at HX0
  clear hf0
  go_enter Try.func18, Try.ntmps18
  go_wp2
  try rw [hb3]
  clear hb3
  generalize w.alloc (.cells #[.int .i64 f0, .int .i64 f1, .int .i64 f2, .int .i64 f3, .string f4] 46) = W0 at HX0 HL0 HB0 ⊢
  refine start_ (n := 12) (S := fun W => W.heap[b3]? = some (.cells #[.int .i64 f0, .int .i64 f1, .int .i64 f2, .int .i64 f3, .string f4] 46 (0, 0)) ∧ LkIs W b g l V) (ds := []) (bz 12 0) (by kernel_rfl) rfl rfl ⟨blk_drew HX0.out, HL0.out.drew⟩ (fun hHeld => ?_); refine with_tabW tkR.tab1 tkR.bits1 (fun HT_ HW_ => ?_)
  have HBd := Aside0.mk (below_drew HB0.out)
  generalize World.drew _ = W8 at hHeld HBd ⊢
  refine take_ (i := 0) (N := (some 6)) (v := ?_) (a' := ?_) (bz 12 1) rfl rfl (take_ofW HT_.out HW_.out (by kernel_rfl)) (fun _ _ _ h => h) (Or.inl ⟨by rfl, ?_⟩) hHeld ?_ ?_
  rotate_left
  · rintro w' ⟨s0, s1⟩
    obtain ⟨z0, z1, z2, z3, z4, _, _, _, _, _⟩ := bx5 s0
    go_simp
    with_reducible rfl
  rotate_left
  · simp only [Act.put, sl1, sl2, sl3, i64_w, i32_w]
    rfl
  refine one_ (i := 1) (N := (some 7)) (bz 12 3) rfl rfl (one_of HT_.out (by kernel_rfl)) (by decide) (fun K hK => ?_)
  refine goes_ Try.func29 (by kernel_rfl) rfl #[.agg #[.int .i64 f0, .int .i64 f1, .int .i64 f2, .int .i64 f3, .string f4]] (by rfl) rfl rfl am ?_
  refine (HRT.out _).mono ?_
  rintro e w1 ⟨rfl, hb⟩
  refine ⟨_, rfl, ?_⟩
  have HBW := Aside0.mk (HBd.out.trans (hb.mono HBd.out.size))
  refine hK.out _ _ ⟨blk_below hHeld.1 hb, hHeld.2.below hb⟩ (fun hHeld => ?_)
  clear hK K
  refine norm_ (a' := ?_) ?_ ?_
  rotate_left
  · show Act.put _ (some 7) _ = _
    simp only [Act.put, sl1, sl2, sl3, i64_w, i32_w]
    rfl
  refine pu_ 2 (some 8) (bz 12 7) HT_.out ?_
  refine pu_ 3 (some 9) (bz 12 15) HT_.out ?_
  refine pu_ 4 (some 10) (bz 12 31) HT_.out ?_
  refine pu_ 6 (some 12) (bz 12 95) HT_.out ?_
  refine pu_ 7 (some 13) (bz 12 223) HT_.out ?_
  refine pu_ 8 (some 14) (bz 12 479) HT_.out ?_
  refine take_ (i := 5) (N := (some 11)) (v := ?_) (a' := ?_) (bz 12 511) rfl rfl (take_ofW HT_.out HW_.out (by kernel_rfl)) (fun _ _ _ h => h) (Or.inl ⟨by rfl, ?_⟩) hHeld ?_ ?_
  rotate_left
  · rintro w' ⟨s0, s1⟩
    obtain ⟨z0, z1, z2, z3, z4, _, _, _, _, _⟩ := bx5 s0
    go_simp
    with_reducible rfl
  rotate_left
  · simp only [Act.put, sl1, sl2, sl3, i64_w, i32_w]
    rfl
  refine take_ (i := 9) (N := (some 15)) (v := ?_) (a' := ?_) (bz 12 1023) rfl rfl (take_ofW HT_.out HW_.out (by kernel_rfl)) (fun _ _ _ h => h) (Or.inl ⟨by rfl, ?_⟩) hHeld ?_ ?_
  rotate_left
  · rintro w' ⟨s0, s1⟩
    obtain ⟨z0, z1, z2, z3, z4, z5, z6⟩ := s1.cells
    go_simp
    with_reducible rfl
  rotate_left
  · simp only [Act.put, sl1, sl2, sl3, i64_w, i32_w]
    rfl
  refine pu_ 10 (some 16) (bz 12 2047) HT_.out ?_
  refine pu_ 11 (some 17) (bz 12 4095) HT_.out ?_
  refine done_ (done_of HT_.out (by kernel_rfl)) ?_
  obtain ⟨hX9, hL9⟩ := hHeld
  have HX9 := Aside0.mk hX9
  have HL9 := Aside0.mk hL9
  clear HT_ HW_ hX9 hL9 hb HX0 HL0 HB0 HBd HRT
  have HO9 : Aside0 (LkOnly w w1 g V V) := ⟨LkOnly.of_below HBW.out⟩
  have d4 : decide (f0 > l.peer) = false := decide_eq_false (Int.not_lt.mpr HS)
  go_wp2
  obtain ⟨z0, z1, z2, z3, z4, _, _, _, _, _⟩ := bx5 HX9.out
  obtain ⟨h0, h1, h2, h3, h4, h5, h6⟩ := HL9.out.cells
  go_quiet (fail)
  have HX4 := Aside0.mk (blk_drewN HX9.out nq)
  have HL4 := Aside0.mk (HL9.out.drewN nq)
  have HO4 := Aside0.mk (HO9.out.below (pw_below_drewN (Below.refl _ _) nq))
  generalize w1.drewN nq = W4 at HX4 HL4 HO4 ⊢
  clear z0 z1 z2 z3 z4 h0 h1 h2 h3 h4 h5 h6
  obtain ⟨l1, hl1⟩ : ∃ l1, l.meet f0 = l1 := ⟨_, rfl⟩
  have HK1 : Aside0 l1.Ok := ⟨by rw [← hl1]; exact hl.out.meet f0 hf1⟩
  have HM1 := Aside0.mk hl1
  have HE1 : Aside0 (l1.epoch = l.epoch) := ⟨by rw [← hl1]; exact meet_epoch l f0⟩
  clear hl1
  have HR0 : Aside0 (decide (l.peer < f0 ∧ l.peer ≠ 0) = false) := ⟨decide_eq_false (fun h => Int.not_lt.mpr HS h.1)⟩
  have HL5 : Aside0 (LkIs W4 b g l1 V) := ⟨by rw [← HM1.out]; unfold LkS.meet; rw [if_neg (Int.not_lt.mpr HS)]; exact HL4.out⟩
  have HO5 := HO4
  have HX5 := HX4
  -- behind the meeting
  obtain ⟨V5, HL5, HO5⟩ : ∃ V5, Aside0 (LkIs W4 b g l1 V5) ∧ Aside0 (LkOnly w W4 g V V5) := ⟨_, HL5, HO5⟩
  go_wp2
  obtain ⟨z0, z1, z2, z3, z4, _, _, _, _, _⟩ := bx5 HX5.out
  obtain ⟨h0, h1, h2, h3, h4, h5, h6⟩ := HL5.out.cells
  go_quiet (fail)
  have HX6 := Aside0.mk (blk_drewN HX5.out nq)
  have HL6 := Aside0.mk (HL5.out.drewN nq)
  have HO6 := Aside0.mk (HO5.out.below (pw_below_drewN (Below.refl _ _) nq))
  generalize W4.drewN nq = W6 at HX6 HL6 HO6 ⊢
  clear z0 z1 z2 z3 z4 h0 h1 h2 h3 h4 h5 h6
  have hok1 := HK1.out
  have he1 := HE1.out
  by_cases cB : f1 = l.epoch
  case neg =>
    have d2 : (f1 == l1.epoch) = false := beq_eq_false_iff_ne.mpr (by rw [he1]; exact cB)
    have d2' : (f1 != l1.epoch) = true := bne_iff_ne.mpr (by rw [he1]; exact cB)
    obtain ⟨h0, h1, h2, h3, h4, h5, h6⟩ := HL6.out.cells
    have hf5 := HL6.out.frozen 5
    clear hok1 he1
    go_wp2
    go_ret2
    exact takePost0 (by rw [← HT.out]; unfold LkS.take; rw [if_neg HNO.out, if_pos cB, HR0.out]; show ({ l.meet f0 with owes := true }, _, _) = _; rw [HM1.out]) (HL6.out.set1 5 (.bool true) { l1 with owes := true } rfl rfl) (HO6.out.set_ 5 (.bool true))
  case pos =>
    have d2 : (f1 == l1.epoch) = true := beq_iff_eq.mpr (by rw [he1]; exact cB)
    have d2' : (f1 != l1.epoch) = false := bne_eq_false_iff_eq.mpr (by rw [he1]; exact cB)
    obtain ⟨z0, z1, z2, z3, z4, _, _, _, _, _⟩ := bx5 HX6.out
    clear hok1 he1
    go_wp2_with (go_at_call 31; refine (ack_calls b g l1 V5 f3 _ HL6.out HK1.out hf3.1 hf3.2).mono ?_)
    rintro e W7 ⟨rfl, V7, hL7, hO7⟩
    have HX7 := Aside0.mk (hO7.box HL6.out HX6.out (by decide) (by decide))
    have HL7 := Aside0.mk hL7
    have HO7 := Aside0.mk (HO6.out.trans hO7)
    have HK2 := Aside0.mk (HK1.out.ackd f3 hf3.2)
    clear hL7 hO7 z0 z1 z2 z3 z4 d2 d2'
    have HM2 : Aside0 (((l.meet f0).ackd f3) = l1.ackd f3) := ⟨by rw [HM1.out]⟩
    generalize l1.ackd f3 = l2 at HL7 HK2 HM2
    have hT2 : T = (l2.take1 ⟨f0, f1, f2, f3, f4⟩, if f2 = l2.taken + 1 then [f4] else [], false) := by
      rw [← HT.out]
      unfold LkS.take
      rw [if_neg HNO.out, if_neg (fun h => h cB), HR0.out]
      show (((l.meet f0).ackd f3).take1 _, (if f2 = ((l.meet f0).ackd f3).taken + 1 then [f4] else []), _) = _
      rw [HM2.out]
    have HT2 := Aside0.mk hT2
    clear hT2
    have ht0 := HK2.out.t0
    have ht1 := HK2.out.t1
    obtain ⟨o, ho⟩ : ∃ o, l2.owes = o := ⟨_, rfl⟩
    obtain ⟨q, hq⟩ : ∃ q, (f2 != 0) = q := ⟨_, rfl⟩
    have hob : (l2.owes || decide (f2 ≠ 0)) = (o || q) := by rw [ho, ← hq]; congr 1; by_cases e : f2 = 0 <;> simp [e]
    have HOB := Aside0.mk hob
    have HOO := Aside0.mk ho
    have HQ := Aside0.mk hq
    clear hob ho hq
    go_wp2
    obtain ⟨t, htt⟩ : ∃ t, l2.taken = t := ⟨_, rfl⟩
    have HTT := Aside0.mk htt
    rw [htt] at ht0 ht1
    clear htt
    obtain ⟨z0, z1, z2, z3, z4, _, _, _, _, _⟩ := bx5 HX7.out
    obtain ⟨h0, h1, h2, h3, h4, h5, h6⟩ := HL7.out.cells
    rw [HTT.out] at h4
    go_quiet (fail)
    have HX8 := Aside0.mk (blk_drewN HX7.out nq)
    have HL8 := Aside0.mk (HL7.out.drewN nq)
    have HO8 := Aside0.mk (HO7.out.below (pw_below_drewN (Below.refl _ _) nq))
    generalize W7.drewN nq = W8 at HX8 HL8 HO8 ⊢
    clear z0 z1 z2 z3 z4 h0 h1 h2 h3 h4 h5 h6
    have hq := HQ.out
    by_cases cS : f2 = t + 1
    · have d3 : (f2 == t + 1) = true := beq_iff_eq.mpr cS
      have d3' : (f2 == wrap64 (t + 1)) = true := beq_iff_eq.mpr (by rw [cS]; unfold wrap64; omega)
      obtain ⟨z0, z1, z2, z3, z4, _, _, _, _, _⟩ := bx5 HX8.out
      obtain ⟨h0, h1, h2, h3, h4, h5, h6⟩ := HL8.out.cells
      have hf4 := HL8.out.frozen 4
      have hf5 := HL8.out.frozen 5
      rw [HTT.out] at h4
      have hbg : b3 ≠ g := blk_ne HX8.out HL8.out.X (by decide)
      have hbg2 : g ≠ b3 := Ne.symm hbg
      rw [HOO.out] at h5
      have HE : Aside0 (T = ({ l2 with taken := t + 1, owes := o || q }, [f4], false)) := ⟨by rw [HT2.out]; unfold LkS.take1; rw [HTT.out, if_pos cS, if_pos cS, ← HOB.out]⟩
      have HLA := Aside0.mk (((HL8.out.set1 4 (.int .i64 (t + 1)) { l2 with taken := t + 1 } rfl rfl).set1 5 (.bool true) { l2 with taken := t + 1, owes := true } rfl rfl).alloc (.cells #[.string f4] 9))
      have HOA := Aside0.mk (((HO8.out.set_ 4 (.int .i64 (t + 1))).set_ 5 (.bool true)).below (below_alloc (Below.refl _ _) (.cells #[.string f4] 9)))
      have HSA := Aside0.mk (heap_alloc_new ((W8.setCell ⟨g, 4, none⟩ (.int .i64 (t + 1))).setCell ⟨g, 5, none⟩ (.bool true)) (.cells #[.string f4] 9))
      have hsz : ((W8.setCell ⟨g, 4, none⟩ (.int .i64 (t + 1))).setCell ⟨g, 5, none⟩ (.bool true)).heap.size = W8.heap.size := by rw [World.size_setCell, World.size_setCell]
      rw [hsz] at HSA
      obtain rfl : q = true := by rw [← HQ.out]; exact bne_iff_ne.mpr (by omega)
      clear hsz cS
      have hgl := HL8.out.lt
      have hbl := blk_lt HX8.out
      cases o
      all_goals
        simp only [Bool.or_true] at HE
        have hne : W8.heap.size ≠ g := by omega
        go_wp2
        go_ret2
        exact takePost1 HE.out HO8.out.1.size HSA.out HLA.out HOA.out
    · have d3 : (f2 == t + 1) = false := beq_eq_false_iff_ne.mpr cS
      have d3' : (f2 == wrap64 (t + 1)) = false := beq_eq_false_iff_ne.mpr (fun e => cS (by rw [e]; unfold wrap64; omega))
      obtain ⟨z0, z1, z2, z3, z4, _, _, _, _, _⟩ := bx5 HX8.out
      obtain ⟨h0, h1, h2, h3, h4, h5, h6⟩ := HL8.out.cells
      have hf5 := HL8.out.frozen 5
      rw [HTT.out] at h4
      rw [HOO.out] at h5
      have HE : Aside0 (T = ({ l2 with owes := o || q }, [], false)) := ⟨by rw [HT2.out]; unfold LkS.take1; rw [HTT.out, if_neg cS, if_neg cS, ← HOB.out]⟩
      have HLA := Aside0.mk (HL8.out.set1 5 (.bool (o || q)) { l2 with owes := o || q } rfl rfl)
      have HOA := Aside0.mk (HO8.out.set_ 5 (.bool (o || q)))
      clear cS
      cases o
      case' true => clear hq
      case' false => cases q
      all_goals
        simp only [Bool.true_or, Bool.false_or, Bool.or_true, Bool.or_false] at HE HLA HOA
        go_wp2
        go_ret2
        exact takePost0 HE.out HLA.out HOA.out
set_option maxHeartbeats 16000000 in
set_option maxRecDepth 100000 in
theorem take_first (b g : Nat) (l : LkS) (V : Value) (f0 f1 f2 f3 : Int) (f4 : ByteArray) (T : LkS × List ByteArray × Bool) (w : World) (H : Aside0 (LkIs w b g l V)) (hl : Aside0 l.Ok) (HT : Aside0 (l.take ⟨f0, f1, f2, f3, f4⟩ = T)) (hf0 : -9223372036854775808 ≤ f0) (HRF : Aside0 (decide (RightF ⟨f0, f1, f2, f3, f4⟩) = true)) (HC : l.peer ≤ f0) (HS : l.peer < f0) (HZ : l.peer = 0) :
    Calls Try.prog 18 #[.pointer (some ⟨g, 0, none⟩), .agg #[.int .i64 f0, .int .i64 f1, .int .i64 f2, .int .i64 f3, .string f4]] w (TakePost w b g V T) := by
  have hRF : RightF ⟨f0, f1, f2, f3, f4⟩ := of_decide_eq_true HRF.out
  have hf3 : 0 ≤ f3 ∧ f3 ≤ 9007199254740991 := ⟨hRF.2.2.2.2.2.2.1, hRF.2.2.2.2.2.2.2.1⟩
  have hf1 : 1 ≤ f0 := hRF.1
  have HNO : Aside0 (¬ (¬ RightF ⟨f0, f1, f2, f3, f4⟩ ∨ f0 < l.peer)) := ⟨fun h => h.elim (fun h => h hRF) (Int.not_lt.mpr HC)⟩
  clear hRF
  have d1 : decide (f0 < l.peer) = false := decide_eq_false (Int.not_lt.mpr HC)
  have HRT : Aside0 (∀ W, Calls Try.prog 29 #[.agg #[.int .i64 f0, .int .i64 f1, .int .i64 f2, .int .i64 f3, .string f4]] W fun e w' => e = .returned (.bool true) ∧ Below W.heap.size W w') := ⟨fun W => link_right.calls f0 f1 f2 f3 f4 true W (by have := right_is ⟨f0, f1, f2, f3, f4⟩ hf0; rw [HRF.out] at this; exact this)⟩
  have HB0 := Aside0.mk (below_alloc (Below.refl w.heap.size w) (.cells #[.int .i64 f0, .int .i64 f1, .int .i64 f2, .int .i64 f3, .string f4] 46))
  have HX0 := Aside0.mk (heap_alloc_new w (.cells #[.int .i64 f0, .int .i64 f1, .int .i64 f2, .int .i64 f3, .string f4] 46))
  have HL0 := Aside0.mk (H.out.alloc (.cells #[.int .i64 f0, .int .i64 f1, .int .i64 f2, .int .i64 f3, .string f4] 46))
  obtain ⟨b3, hb3⟩ : ∃ b3, w.heap.size = b3 := ⟨_, rfl⟩
  rw [hb3] at HX0
  clear hf0
  go_enter Try.func18, Try.ntmps18
  go_wp2
  try rw [hb3]
  clear hb3
  generalize w.alloc (.cells #[.int .i64 f0, .int .i64 f1, .int .i64 f2, .int .i64 f3, .string f4] 46) = W0 at HX0 HL0 HB0 ⊢
  refine start_ (n := 12) (S := fun W => W.heap[b3]? = some (.cells #[.int .i64 f0, .int .i64 f1, .int .i64 f2, .int .i64 f3, .string f4] 46 (0, 0)) ∧ LkIs W b g l V) (ds := []) (bz 12 0) (by kernel_rfl) rfl rfl ⟨blk_drew HX0.out, HL0.out.drew⟩ (fun hHeld => ?_); refine with_tabW tkR.tab1 tkR.bits1 (fun HT_ HW_ => ?_)
  have HBd := Aside0.mk (below_drew HB0.out)
  generalize World.drew _ = W8 at hHeld HBd ⊢
  refine take_ (i := 0) (N := (some 6)) (v := ?_) (a' := ?_) (bz 12 1) rfl rfl (take_ofW HT_.out HW_.out (by kernel_rfl)) (fun _ _ _ h => h) (Or.inl ⟨by rfl, ?_⟩) hHeld ?_ ?_
  rotate_left
  · rintro w' ⟨s0, s1⟩
    obtain ⟨z0, z1, z2, z3, z4, _, _, _, _, _⟩ := bx5 s0
    go_simp
    with_reducible rfl
  rotate_left
  · simp only [Act.put, sl1, sl2, sl3, i64_w, i32_w]
    rfl
  refine one_ (i := 1) (N := (some 7)) (bz 12 3) rfl rfl (one_of HT_.out (by kernel_rfl)) (by decide) (fun K hK => ?_)
  refine goes_ Try.func29 (by kernel_rfl) rfl #[.agg #[.int .i64 f0, .int .i64 f1, .int .i64 f2, .int .i64 f3, .string f4]] (by rfl) rfl rfl am ?_
  refine (HRT.out _).mono ?_
  rintro e w1 ⟨rfl, hb⟩
  refine ⟨_, rfl, ?_⟩
  have HBW := Aside0.mk (HBd.out.trans (hb.mono HBd.out.size))
  refine hK.out _ _ ⟨blk_below hHeld.1 hb, hHeld.2.below hb⟩ (fun hHeld => ?_)
  clear hK K
  refine norm_ (a' := ?_) ?_ ?_
  rotate_left
  · show Act.put _ (some 7) _ = _
    simp only [Act.put, sl1, sl2, sl3, i64_w, i32_w]
    rfl
  refine pu_ 2 (some 8) (bz 12 7) HT_.out ?_
  refine pu_ 3 (some 9) (bz 12 15) HT_.out ?_
  refine pu_ 4 (some 10) (bz 12 31) HT_.out ?_
  refine pu_ 6 (some 12) (bz 12 95) HT_.out ?_
  refine pu_ 7 (some 13) (bz 12 223) HT_.out ?_
  refine pu_ 8 (some 14) (bz 12 479) HT_.out ?_
  refine take_ (i := 5) (N := (some 11)) (v := ?_) (a' := ?_) (bz 12 511) rfl rfl (take_ofW HT_.out HW_.out (by kernel_rfl)) (fun _ _ _ h => h) (Or.inl ⟨by rfl, ?_⟩) hHeld ?_ ?_
  rotate_left
  · rintro w' ⟨s0, s1⟩
    obtain ⟨z0, z1, z2, z3, z4, _, _, _, _, _⟩ := bx5 s0
    go_simp
    with_reducible rfl
  rotate_left
  · simp only [Act.put, sl1, sl2, sl3, i64_w, i32_w]
    rfl
  refine take_ (i := 9) (N := (some 15)) (v := ?_) (a' := ?_) (bz 12 1023) rfl rfl (take_ofW HT_.out HW_.out (by kernel_rfl)) (fun _ _ _ h => h) (Or.inl ⟨by rfl, ?_⟩) hHeld ?_ ?_
  rotate_left
  · rintro w' ⟨s0, s1⟩
    obtain ⟨z0, z1, z2, z3, z4, z5, z6⟩ := s1.cells
    go_simp
    with_reducible rfl
  rotate_left
  · simp only [Act.put, sl1, sl2, sl3, i64_w, i32_w]
    rfl
  refine pu_ 10 (some 16) (bz 12 2047) HT_.out ?_
  refine pu_ 11 (some 17) (bz 12 4095) HT_.out ?_
  refine done_ (done_of HT_.out (by kernel_rfl)) ?_
  obtain ⟨hX9, hL9⟩ := hHeld
  have HX9 := Aside0.mk hX9
  have HL9 := Aside0.mk hL9
  clear HT_ HW_ hX9 hL9 hb HX0 HL0 HB0 HBd HRT
  have HO9 : Aside0 (LkOnly w w1 g V V) := ⟨LkOnly.of_below HBW.out⟩
  have d4 : decide (f0 > l.peer) = true := decide_eq_true HS
  go_wp2
  obtain ⟨z0, z1, z2, z3, z4, _, _, _, _, _⟩ := bx5 HX9.out
  obtain ⟨h0, h1, h2, h3, h4, h5, h6⟩ := HL9.out.cells
  go_quiet (fail)
  have HX4 := Aside0.mk (blk_drewN HX9.out nq)
  have HL4 := Aside0.mk (HL9.out.drewN nq)
  have HO4 := Aside0.mk (HO9.out.below (pw_below_drewN (Below.refl _ _) nq))
  generalize w1.drewN nq = W4 at HX4 HL4 HO4 ⊢
  clear z0 z1 z2 z3 z4 h0 h1 h2 h3 h4 h5 h6
  obtain ⟨l1, hl1⟩ : ∃ l1, l.meet f0 = l1 := ⟨_, rfl⟩
  have HK1 : Aside0 l1.Ok := ⟨by rw [← hl1]; exact hl.out.meet f0 hf1⟩
  have HM1 := Aside0.mk hl1
  have HE1 : Aside0 (l1.epoch = l.epoch) := ⟨by rw [← hl1]; exact meet_epoch l f0⟩
  clear hl1
  have HR0 : Aside0 (decide (l.peer < f0 ∧ l.peer ≠ 0) = false) := ⟨decide_eq_false (fun h => h.2 HZ)⟩
  have d5 : (l.peer != 0) = false := bne_eq_false_iff_eq.mpr HZ
  obtain ⟨z0, z1, z2, z3, z4, _, _, _, _, _⟩ := bx5 HX4.out
  obtain ⟨h0, h1, h2, h3, h4, h5, h6⟩ := HL4.out.cells
  have f1_ := HL4.out.frozen 1
  have f4_ := HL4.out.frozen 4
  have HL5 : Aside0 (LkIs ((W4.setCell ⟨g, 1, none⟩ (.int .i64 f0)).setCell ⟨g, 4, none⟩ (.int .i64 0)) b g l1 V) := ⟨by
    rw [← HM1.out]
    unfold LkS.meet
    rw [if_pos HS, if_neg (fun h => h HZ)]
    exact (HL4.out.set1 1 (.int .i64 f0) { l with peer := f0 } rfl rfl).set1 4 (.int .i64 0) { l with peer := f0, taken := 0 } rfl rfl⟩
  have HO5 : Aside0 (LkOnly w ((W4.setCell ⟨g, 1, none⟩ (.int .i64 f0)).setCell ⟨g, 4, none⟩ (.int .i64 0)) g V V) := ⟨(HO4.out.set_ 1 _).set_ 4 _⟩
  have hbg : b3 ≠ g := blk_ne HX4.out HL4.out.X (by decide)
  have hbg2 : g ≠ b3 := Ne.symm hbg
  have HX5 := Aside0.mk (blk_far (p := ⟨g, 4, none⟩) (blk_far (p := ⟨g, 1, none⟩) HX4.out hbg (.int .i64 f0)) hbg (.int .i64 0))
  go_wp2
  generalize (W4.setCell ⟨g, 1, none⟩ (.int .i64 f0)).setCell ⟨g, 4, none⟩ (.int .i64 0) = W5 at HL5 HO5 HX5 ⊢
  clear z0 z1 z2 z3 z4 h0 h1 h2 h3 h4 h5 h6
  clear f1_ f4_ hbg hbg2 d5
  -- behind the meeting
  obtain ⟨V5, HL5, HO5⟩ : ∃ V5, Aside0 (LkIs W5 b g l1 V5) ∧ Aside0 (LkOnly w W5 g V V5) := ⟨_, HL5, HO5⟩
  go_wp2
  obtain ⟨z0, z1, z2, z3, z4, _, _, _, _, _⟩ := bx5 HX5.out
  obtain ⟨h0, h1, h2, h3, h4, h5, h6⟩ := HL5.out.cells
  go_quiet (fail)
  have HX6 := Aside0.mk (blk_drewN HX5.out nq)
  have HL6 := Aside0.mk (HL5.out.drewN nq)
  have HO6 := Aside0.mk (HO5.out.below (pw_below_drewN (Below.refl _ _) nq))
  generalize W5.drewN nq = W6 at HX6 HL6 HO6 ⊢
  clear z0 z1 z2 z3 z4 h0 h1 h2 h3 h4 h5 h6
  have hok1 := HK1.out
  have he1 := HE1.out
  by_cases cB : f1 = l.epoch
  case neg =>
    have d2 : (f1 == l1.epoch) = false := beq_eq_false_iff_ne.mpr (by rw [he1]; exact cB)
    have d2' : (f1 != l1.epoch) = true := bne_iff_ne.mpr (by rw [he1]; exact cB)
    obtain ⟨h0, h1, h2, h3, h4, h5, h6⟩ := HL6.out.cells
    have hf5 := HL6.out.frozen 5
    clear hok1 he1
    go_wp2
    go_ret2
    exact takePost0 (by rw [← HT.out]; unfold LkS.take; rw [if_neg HNO.out, if_pos cB, HR0.out]; show ({ l.meet f0 with owes := true }, _, _) = _; rw [HM1.out]) (HL6.out.set1 5 (.bool true) { l1 with owes := true } rfl rfl) (HO6.out.set_ 5 (.bool true))
  case pos =>
    have d2 : (f1 == l1.epoch) = true := beq_iff_eq.mpr (by rw [he1]; exact cB)
    have d2' : (f1 != l1.epoch) = false := bne_eq_false_iff_eq.mpr (by rw [he1]; exact cB)
    obtain ⟨z0, z1, z2, z3, z4, _, _, _, _, _⟩ := bx5 HX6.out
    clear hok1 he1
    go_wp2_with (go_at_call 31; refine (ack_calls b g l1 V5 f3 _ HL6.out HK1.out hf3.1 hf3.2).mono ?_)
    rintro e W7 ⟨rfl, V7, hL7, hO7⟩
    have HX7 := Aside0.mk (hO7.box HL6.out HX6.out (by decide) (by decide))
    have HL7 := Aside0.mk hL7
    have HO7 := Aside0.mk (HO6.out.trans hO7)
    have HK2 := Aside0.mk (HK1.out.ackd f3 hf3.2)
    clear hL7 hO7 z0 z1 z2 z3 z4 d2 d2'
    have HM2 : Aside0 (((l.meet f0).ackd f3) = l1.ackd f3) := ⟨by rw [HM1.out]⟩
    generalize l1.ackd f3 = l2 at HL7 HK2 HM2
    have hT2 : T = (l2.take1 ⟨f0, f1, f2, f3, f4⟩, if f2 = l2.taken + 1 then [f4] else [], false) := by
      rw [← HT.out]
      unfold LkS.take
      rw [if_neg HNO.out, if_neg (fun h => h cB), HR0.out]
      show (((l.meet f0).ackd f3).take1 _, (if f2 = ((l.meet f0).ackd f3).taken + 1 then [f4] else []), _) = _
      rw [HM2.out]
    have HT2 := Aside0.mk hT2
    clear hT2
    have ht0 := HK2.out.t0
    have ht1 := HK2.out.t1
    obtain ⟨o, ho⟩ : ∃ o, l2.owes = o := ⟨_, rfl⟩
    obtain ⟨q, hq⟩ : ∃ q, (f2 != 0) = q := ⟨_, rfl⟩
    have hob : (l2.owes || decide (f2 ≠ 0)) = (o || q) := by rw [ho, ← hq]; congr 1; by_cases e : f2 = 0 <;> simp [e]
    have HOB := Aside0.mk hob
    have HOO := Aside0.mk ho
    have HQ := Aside0.mk hq
    clear hob ho hq
    go_wp2
    obtain ⟨t, htt⟩ : ∃ t, l2.taken = t := ⟨_, rfl⟩
    have HTT := Aside0.mk htt
    rw [htt] at ht0 ht1
    clear htt
    obtain ⟨z0, z1, z2, z3, z4, _, _, _, _, _⟩ := bx5 HX7.out
    obtain ⟨h0, h1, h2, h3, h4, h5, h6⟩ := HL7.out.cells
    rw [HTT.out] at h4
    go_quiet (fail)
    have HX8 := Aside0.mk (blk_drewN HX7.out nq)
    have HL8 := Aside0.mk (HL7.out.drewN nq)
    have HO8 := Aside0.mk (HO7.out.below (pw_below_drewN (Below.refl _ _) nq))
    generalize W7.drewN nq = W8 at HX8 HL8 HO8 ⊢
    clear z0 z1 z2 z3 z4 h0 h1 h2 h3 h4 h5 h6
    have hq := HQ.out
    by_cases cS : f2 = t + 1
    · have d3 : (f2 == t + 1) = true := beq_iff_eq.mpr cS
      have d3' : (f2 == wrap64 (t + 1)) = true := beq_iff_eq.mpr (by rw [cS]; unfold wrap64; omega)
      obtain ⟨z0, z1, z2, z3, z4, _, _, _, _, _⟩ := bx5 HX8.out
      obtain ⟨h0, h1, h2, h3, h4, h5, h6⟩ := HL8.out.cells
      have hf4 := HL8.out.frozen 4
      have hf5 := HL8.out.frozen 5
      rw [HTT.out] at h4
      have hbg : b3 ≠ g := blk_ne HX8.out HL8.out.X (by decide)
      have hbg2 : g ≠ b3 := Ne.symm hbg
      rw [HOO.out] at h5
      have HE : Aside0 (T = ({ l2 with taken := t + 1, owes := o || q }, [f4], false)) := ⟨by rw [HT2.out]; unfold LkS.take1; rw [HTT.out, if_pos cS, if_pos cS, ← HOB.out]⟩
      have HLA := Aside0.mk (((HL8.out.set1 4 (.int .i64 (t + 1)) { l2 with taken := t + 1 } rfl rfl).set1 5 (.bool true) { l2 with taken := t + 1, owes := true } rfl rfl).alloc (.cells #[.string f4] 9))
      have HOA := Aside0.mk (((HO8.out.set_ 4 (.int .i64 (t + 1))).set_ 5 (.bool true)).below (below_alloc (Below.refl _ _) (.cells #[.string f4] 9)))
      have HSA := Aside0.mk (heap_alloc_new ((W8.setCell ⟨g, 4, none⟩ (.int .i64 (t + 1))).setCell ⟨g, 5, none⟩ (.bool true)) (.cells #[.string f4] 9))
      have hsz : ((W8.setCell ⟨g, 4, none⟩ (.int .i64 (t + 1))).setCell ⟨g, 5, none⟩ (.bool true)).heap.size = W8.heap.size := by rw [World.size_setCell, World.size_setCell]
      rw [hsz] at HSA
      obtain rfl : q = true := by rw [← HQ.out]; exact bne_iff_ne.mpr (by omega)
      clear hsz cS
      have hgl := HL8.out.lt
      have hbl := blk_lt HX8.out
      cases o
      all_goals
        simp only [Bool.or_true] at HE
        have hne : W8.heap.size ≠ g := by omega
        go_wp2
        go_ret2
        exact takePost1 HE.out HO8.out.1.size HSA.out HLA.out HOA.out
    · have d3 : (f2 == t + 1) = false := beq_eq_false_iff_ne.mpr cS
      have d3' : (f2 == wrap64 (t + 1)) = false := beq_eq_false_iff_ne.mpr (fun e => cS (by rw [e]; unfold wrap64; omega))
      obtain ⟨z0, z1, z2, z3, z4, _, _, _, _, _⟩ := bx5 HX8.out
      obtain ⟨h0, h1, h2, h3, h4, h5, h6⟩ := HL8.out.cells
      have hf5 := HL8.out.frozen 5
      rw [HTT.out] at h4
      rw [HOO.out] at h5
      have HE : Aside0 (T = ({ l2 with owes := o || q }, [], false)) := ⟨by rw [HT2.out]; unfold LkS.take1; rw [HTT.out, if_neg cS, if_neg cS, ← HOB.out]⟩
      have HLA := Aside0.mk (HL8.out.set1 5 (.bool (o || q)) { l2 with owes := o || q } rfl rfl)
      have HOA := Aside0.mk (HO8.out.set_ 5 (.bool (o || q)))
      clear cS
      cases o
      case' true => clear hq
      case' false => cases q
      all_goals
        simp only [Bool.true_or, Bool.false_or, Bool.or_true, Bool.or_false] at HE HLA HOA
        go_wp2
        go_ret2
        exact takePost0 HE.out HLA.out HOA.out
set_option maxHeartbeats 16000000 in
set_option maxRecDepth 100000 in
theorem take_new (b g : Nat) (l : LkS) (V : Value) (f0 f1 f2 f3 : Int) (f4 : ByteArray) (T : LkS × List ByteArray × Bool) (w : World) (H : Aside0 (LkIs w b g l V)) (hl : Aside0 l.Ok) (HT : Aside0 (l.take ⟨f0, f1, f2, f3, f4⟩ = T)) (hf0 : -9223372036854775808 ≤ f0) (HRF : Aside0 (decide (RightF ⟨f0, f1, f2, f3, f4⟩) = true)) (HC : l.peer ≤ f0) (HS : l.peer < f0) (HZ : l.peer ≠ 0) :
    Calls Try.prog 18 #[.pointer (some ⟨g, 0, none⟩), .agg #[.int .i64 f0, .int .i64 f1, .int .i64 f2, .int .i64 f3, .string f4]] w (TakePost w b g V T) := by
  have hRF : RightF ⟨f0, f1, f2, f3, f4⟩ := of_decide_eq_true HRF.out
  have hf3 : 0 ≤ f3 ∧ f3 ≤ 9007199254740991 := ⟨hRF.2.2.2.2.2.2.1, hRF.2.2.2.2.2.2.2.1⟩
  have hf1 : 1 ≤ f0 := hRF.1
  have HNO : Aside0 (¬ (¬ RightF ⟨f0, f1, f2, f3, f4⟩ ∨ f0 < l.peer)) := ⟨fun h => h.elim (fun h => h hRF) (Int.not_lt.mpr HC)⟩
  clear hRF
  have d1 : decide (f0 < l.peer) = false := decide_eq_false (Int.not_lt.mpr HC)
  have HRT : Aside0 (∀ W, Calls Try.prog 29 #[.agg #[.int .i64 f0, .int .i64 f1, .int .i64 f2, .int .i64 f3, .string f4]] W fun e w' => e = .returned (.bool true) ∧ Below W.heap.size W w') := ⟨fun W => link_right.calls f0 f1 f2 f3 f4 true W (by have := right_is ⟨f0, f1, f2, f3, f4⟩ hf0; rw [HRF.out] at this; exact this)⟩
  have HB0 := Aside0.mk (below_alloc (Below.refl w.heap.size w) (.cells #[.int .i64 f0, .int .i64 f1, .int .i64 f2, .int .i64 f3, .string f4] 46))
  have HX0 := Aside0.mk (heap_alloc_new w (.cells #[.int .i64 f0, .int .i64 f1, .int .i64 f2, .int .i64 f3, .string f4] 46))
  have HL0 := Aside0.mk (H.out.alloc (.cells #[.int .i64 f0, .int .i64 f1, .int .i64 f2, .int .i64 f3, .string f4] 46))
  obtain ⟨b3, hb3⟩ : ∃ b3, w.heap.size = b3 := ⟨_, rfl⟩
  rw [hb3] at HX0
  clear hf0
  go_enter Try.func18, Try.ntmps18
  go_wp2
  try rw [hb3]
  clear hb3
  generalize w.alloc (.cells #[.int .i64 f0, .int .i64 f1, .int .i64 f2, .int .i64 f3, .string f4] 46) = W0 at HX0 HL0 HB0 ⊢
  refine start_ (n := 12) (S := fun W => W.heap[b3]? = some (.cells #[.int .i64 f0, .int .i64 f1, .int .i64 f2, .int .i64 f3, .string f4] 46 (0, 0)) ∧ LkIs W b g l V) (ds := []) (bz 12 0) (by kernel_rfl) rfl rfl ⟨blk_drew HX0.out, HL0.out.drew⟩ (fun hHeld => ?_); refine with_tabW tkR.tab1 tkR.bits1 (fun HT_ HW_ => ?_)
  have HBd := Aside0.mk (below_drew HB0.out)
  generalize World.drew _ = W8 at hHeld HBd ⊢
  refine take_ (i := 0) (N := (some 6)) (v := ?_) (a' := ?_) (bz 12 1) rfl rfl (take_ofW HT_.out HW_.out (by kernel_rfl)) (fun _ _ _ h => h) (Or.inl ⟨by rfl, ?_⟩) hHeld ?_ ?_
  rotate_left
  · rintro w' ⟨s0, s1⟩
    obtain ⟨z0, z1, z2, z3, z4, _, _, _, _, _⟩ := bx5 s0
    go_simp
    with_reducible rfl
  rotate_left
  · simp only [Act.put, sl1, sl2, sl3, i64_w, i32_w]
    rfl
  refine one_ (i := 1) (N := (some 7)) (bz 12 3) rfl rfl (one_of HT_.out (by kernel_rfl)) (by decide) (fun K hK => ?_)
  refine goes_ Try.func29 (by kernel_rfl) rfl #[.agg #[.int .i64 f0, .int .i64 f1, .int .i64 f2, .int .i64 f3, .string f4]] (by rfl) rfl rfl am ?_
  refine (HRT.out _).mono ?_
  rintro e w1 ⟨rfl, hb⟩
  refine ⟨_, rfl, ?_⟩
  have HBW := Aside0.mk (HBd.out.trans (hb.mono HBd.out.size))
  refine hK.out _ _ ⟨blk_below hHeld.1 hb, hHeld.2.below hb⟩ (fun hHeld => ?_)
  clear hK K
  refine norm_ (a' := ?_) ?_ ?_
  rotate_left
  · show Act.put _ (some 7) _ = _
    simp only [Act.put, sl1, sl2, sl3, i64_w, i32_w]
    rfl
  refine pu_ 2 (some 8) (bz 12 7) HT_.out ?_
  refine pu_ 3 (some 9) (bz 12 15) HT_.out ?_
  refine pu_ 4 (some 10) (bz 12 31) HT_.out ?_
  refine pu_ 6 (some 12) (bz 12 95) HT_.out ?_
  refine pu_ 7 (some 13) (bz 12 223) HT_.out ?_
  refine pu_ 8 (some 14) (bz 12 479) HT_.out ?_
  refine take_ (i := 5) (N := (some 11)) (v := ?_) (a' := ?_) (bz 12 511) rfl rfl (take_ofW HT_.out HW_.out (by kernel_rfl)) (fun _ _ _ h => h) (Or.inl ⟨by rfl, ?_⟩) hHeld ?_ ?_
  rotate_left
  · rintro w' ⟨s0, s1⟩
    obtain ⟨z0, z1, z2, z3, z4, _, _, _, _, _⟩ := bx5 s0
    go_simp
    with_reducible rfl
  rotate_left
  · simp only [Act.put, sl1, sl2, sl3, i64_w, i32_w]
    rfl
  refine take_ (i := 9) (N := (some 15)) (v := ?_) (a' := ?_) (bz 12 1023) rfl rfl (take_ofW HT_.out HW_.out (by kernel_rfl)) (fun _ _ _ h => h) (Or.inl ⟨by rfl, ?_⟩) hHeld ?_ ?_
  rotate_left
  · rintro w' ⟨s0, s1⟩
    obtain ⟨z0, z1, z2, z3, z4, z5, z6⟩ := s1.cells
    go_simp
    with_reducible rfl
  rotate_left
  · simp only [Act.put, sl1, sl2, sl3, i64_w, i32_w]
    rfl
  refine pu_ 10 (some 16) (bz 12 2047) HT_.out ?_
  refine pu_ 11 (some 17) (bz 12 4095) HT_.out ?_
  refine done_ (done_of HT_.out (by kernel_rfl)) ?_
  obtain ⟨hX9, hL9⟩ := hHeld
  have HX9 := Aside0.mk hX9
  have HL9 := Aside0.mk hL9
  clear HT_ HW_ hX9 hL9 hb HX0 HL0 HB0 HBd HRT
  have HO9 : Aside0 (LkOnly w w1 g V V) := ⟨LkOnly.of_below HBW.out⟩
  have d4 : decide (f0 > l.peer) = true := decide_eq_true HS
  go_wp2
  obtain ⟨z0, z1, z2, z3, z4, _, _, _, _, _⟩ := bx5 HX9.out
  obtain ⟨h0, h1, h2, h3, h4, h5, h6⟩ := HL9.out.cells
  go_quiet (fail)
  have HX4 := Aside0.mk (blk_drewN HX9.out nq)
  have HL4 := Aside0.mk (HL9.out.drewN nq)
  have HO4 := Aside0.mk (HO9.out.below (pw_below_drewN (Below.refl _ _) nq))
  generalize w1.drewN nq = W4 at HX4 HL4 HO4 ⊢
  clear z0 z1 z2 z3 z4 h0 h1 h2 h3 h4 h5 h6
  obtain ⟨l1, hl1⟩ : ∃ l1, l.meet f0 = l1 := ⟨_, rfl⟩
  have HK1 : Aside0 l1.Ok := ⟨by rw [← hl1]; exact hl.out.meet f0 hf1⟩
  have HM1 := Aside0.mk hl1
  have HE1 : Aside0 (l1.epoch = l.epoch) := ⟨by rw [← hl1]; exact meet_epoch l f0⟩
  clear hl1
  have HR0 : Aside0 (decide (l.peer < f0 ∧ l.peer ≠ 0) = true) := ⟨decide_eq_true ⟨HS, HZ⟩⟩
  have d5 : (l.peer != 0) = true := bne_iff_ne.mpr HZ
  obtain ⟨z0, z1, z2, z3, z4, _, _, _, _, _⟩ := bx5 HX4.out
  obtain ⟨h0, h1, h2, h3, h4, h5, h6⟩ := HL4.out.cells
  go_wp2_with (go_at_call 30; refine (reset_calls b g l V _ HL4.out).mono ?_)
  rintro e Wr ⟨rfl, hLr, hOr⟩
  have HXr := Aside0.mk (hOr.box HL4.out HX4.out (by decide) (by decide))
  have HLr := Aside0.mk hLr
  have HOr := Aside0.mk (HO4.out.trans hOr)
  clear hLr hOr d5
  clear z0 z1 z2 z3 z4 h0 h1 h2 h3 h4 h5 h6
  obtain ⟨z0, z1, z2, z3, z4, _, _, _, _, _⟩ := bx5 HXr.out
  obtain ⟨h0, h1, h2, h3, h4, h5, h6⟩ := HLr.out.cells
  have f1_ := HLr.out.frozen 1
  have f4_ := HLr.out.frozen 4
  have HL5 : Aside0 (LkIs ((Wr.setCell ⟨g, 1, none⟩ (.int .i64 f0)).setCell ⟨g, 4, none⟩ (.int .i64 0)) b g l1 (.slice none 0 0)) := ⟨by
    rw [← HM1.out]
    unfold LkS.meet
    rw [if_pos HS, if_pos HZ]
    exact (HLr.out.set1 1 (.int .i64 f0) { l.reset with peer := f0 } rfl rfl).set1 4 (.int .i64 0) { l.reset with peer := f0, taken := 0 } rfl rfl⟩
  have HO5 : Aside0 (LkOnly w ((Wr.setCell ⟨g, 1, none⟩ (.int .i64 f0)).setCell ⟨g, 4, none⟩ (.int .i64 0)) g V (.slice none 0 0)) := ⟨(HOr.out.set_ 1 _).set_ 4 _⟩
  have hbg : b3 ≠ g := blk_ne HXr.out HLr.out.X (by decide)
  have hbg2 : g ≠ b3 := Ne.symm hbg
  have HX5 := Aside0.mk (blk_far (p := ⟨g, 4, none⟩) (blk_far (p := ⟨g, 1, none⟩) HXr.out hbg (.int .i64 f0)) hbg (.int .i64 0))
  go_wp2
  generalize (Wr.setCell ⟨g, 1, none⟩ (.int .i64 f0)).setCell ⟨g, 4, none⟩ (.int .i64 0) = W5 at HL5 HO5 HX5 ⊢
  clear z0 z1 z2 z3 z4 h0 h1 h2 h3 h4 h5 h6
  clear f1_ f4_ hbg hbg2
  -- behind the meeting
  obtain ⟨V5, HL5, HO5⟩ : ∃ V5, Aside0 (LkIs W5 b g l1 V5) ∧ Aside0 (LkOnly w W5 g V V5) := ⟨_, HL5, HO5⟩
  go_wp2
  obtain ⟨z0, z1, z2, z3, z4, _, _, _, _, _⟩ := bx5 HX5.out
  obtain ⟨h0, h1, h2, h3, h4, h5, h6⟩ := HL5.out.cells
  go_quiet (fail)
  have HX6 := Aside0.mk (blk_drewN HX5.out nq)
  have HL6 := Aside0.mk (HL5.out.drewN nq)
  have HO6 := Aside0.mk (HO5.out.below (pw_below_drewN (Below.refl _ _) nq))
  generalize W5.drewN nq = W6 at HX6 HL6 HO6 ⊢
  clear z0 z1 z2 z3 z4 h0 h1 h2 h3 h4 h5 h6
  have hok1 := HK1.out
  have he1 := HE1.out
  by_cases cB : f1 = l.epoch
  case neg =>
    have d2 : (f1 == l1.epoch) = false := beq_eq_false_iff_ne.mpr (by rw [he1]; exact cB)
    have d2' : (f1 != l1.epoch) = true := bne_iff_ne.mpr (by rw [he1]; exact cB)
    obtain ⟨h0, h1, h2, h3, h4, h5, h6⟩ := HL6.out.cells
    have hf5 := HL6.out.frozen 5
    clear hok1 he1
    go_wp2
    go_ret2
    exact takePost0 (by rw [← HT.out]; unfold LkS.take; rw [if_neg HNO.out, if_pos cB, HR0.out]; show ({ l.meet f0 with owes := true }, _, _) = _; rw [HM1.out]) (HL6.out.set1 5 (.bool true) { l1 with owes := true } rfl rfl) (HO6.out.set_ 5 (.bool true))
  case pos =>
    have d2 : (f1 == l1.epoch) = true := beq_iff_eq.mpr (by rw [he1]; exact cB)
    have d2' : (f1 != l1.epoch) = false := bne_eq_false_iff_eq.mpr (by rw [he1]; exact cB)
    obtain ⟨z0, z1, z2, z3, z4, _, _, _, _, _⟩ := bx5 HX6.out
    clear hok1 he1
    go_wp2_with (go_at_call 31; refine (ack_calls b g l1 V5 f3 _ HL6.out HK1.out hf3.1 hf3.2).mono ?_)
    rintro e W7 ⟨rfl, V7, hL7, hO7⟩
    have HX7 := Aside0.mk (hO7.box HL6.out HX6.out (by decide) (by decide))
    have HL7 := Aside0.mk hL7
    have HO7 := Aside0.mk (HO6.out.trans hO7)
    have HK2 := Aside0.mk (HK1.out.ackd f3 hf3.2)
    clear hL7 hO7 z0 z1 z2 z3 z4 d2 d2'
    have HM2 : Aside0 (((l.meet f0).ackd f3) = l1.ackd f3) := ⟨by rw [HM1.out]⟩
    generalize l1.ackd f3 = l2 at HL7 HK2 HM2
    have hT2 : T = (l2.take1 ⟨f0, f1, f2, f3, f4⟩, if f2 = l2.taken + 1 then [f4] else [], true) := by
      rw [← HT.out]
      unfold LkS.take
      rw [if_neg HNO.out, if_neg (fun h => h cB), HR0.out]
      show (((l.meet f0).ackd f3).take1 _, (if f2 = ((l.meet f0).ackd f3).taken + 1 then [f4] else []), _) = _
      rw [HM2.out]
    have HT2 := Aside0.mk hT2
    clear hT2
    have ht0 := HK2.out.t0
    have ht1 := HK2.out.t1
    obtain ⟨o, ho⟩ : ∃ o, l2.owes = o := ⟨_, rfl⟩
    obtain ⟨q, hq⟩ : ∃ q, (f2 != 0) = q := ⟨_, rfl⟩
    have hob : (l2.owes || decide (f2 ≠ 0)) = (o || q) := by rw [ho, ← hq]; congr 1; by_cases e : f2 = 0 <;> simp [e]
    have HOB := Aside0.mk hob
    have HOO := Aside0.mk ho
    have HQ := Aside0.mk hq
    clear hob ho hq
    go_wp2
    obtain ⟨t, htt⟩ : ∃ t, l2.taken = t := ⟨_, rfl⟩
    have HTT := Aside0.mk htt
    rw [htt] at ht0 ht1
    clear htt
    obtain ⟨z0, z1, z2, z3, z4, _, _, _, _, _⟩ := bx5 HX7.out
    obtain ⟨h0, h1, h2, h3, h4, h5, h6⟩ := HL7.out.cells
    rw [HTT.out] at h4
    go_quiet (fail)
    have HX8 := Aside0.mk (blk_drewN HX7.out nq)
    have HL8 := Aside0.mk (HL7.out.drewN nq)
    have HO8 := Aside0.mk (HO7.out.below (pw_below_drewN (Below.refl _ _) nq))
    generalize W7.drewN nq = W8 at HX8 HL8 HO8 ⊢
    clear z0 z1 z2 z3 z4 h0 h1 h2 h3 h4 h5 h6
    have hq := HQ.out
    by_cases cS : f2 = t + 1
    · have d3 : (f2 == t + 1) = true := beq_iff_eq.mpr cS
      have d3' : (f2 == wrap64 (t + 1)) = true := beq_iff_eq.mpr (by rw [cS]; unfold wrap64; omega)
      obtain ⟨z0, z1, z2, z3, z4, _, _, _, _, _⟩ := bx5 HX8.out
      obtain ⟨h0, h1, h2, h3, h4, h5, h6⟩ := HL8.out.cells
      have hf4 := HL8.out.frozen 4
      have hf5 := HL8.out.frozen 5
      rw [HTT.out] at h4
      have hbg : b3 ≠ g := blk_ne HX8.out HL8.out.X (by decide)
      have hbg2 : g ≠ b3 := Ne.symm hbg
      rw [HOO.out] at h5
      have HE : Aside0 (T = ({ l2 with taken := t + 1, owes := o || q }, [f4], true)) := ⟨by rw [HT2.out]; unfold LkS.take1; rw [HTT.out, if_pos cS, if_pos cS, ← HOB.out]⟩
      have HLA := Aside0.mk (((HL8.out.set1 4 (.int .i64 (t + 1)) { l2 with taken := t + 1 } rfl rfl).set1 5 (.bool true) { l2 with taken := t + 1, owes := true } rfl rfl).alloc (.cells #[.string f4] 9))
      have HOA := Aside0.mk (((HO8.out.set_ 4 (.int .i64 (t + 1))).set_ 5 (.bool true)).below (below_alloc (Below.refl _ _) (.cells #[.string f4] 9)))
      have HSA := Aside0.mk (heap_alloc_new ((W8.setCell ⟨g, 4, none⟩ (.int .i64 (t + 1))).setCell ⟨g, 5, none⟩ (.bool true)) (.cells #[.string f4] 9))
      have hsz : ((W8.setCell ⟨g, 4, none⟩ (.int .i64 (t + 1))).setCell ⟨g, 5, none⟩ (.bool true)).heap.size = W8.heap.size := by rw [World.size_setCell, World.size_setCell]
      rw [hsz] at HSA
      obtain rfl : q = true := by rw [← HQ.out]; exact bne_iff_ne.mpr (by omega)
      clear hsz cS
      have hgl := HL8.out.lt
      have hbl := blk_lt HX8.out
      cases o
      all_goals
        simp only [Bool.or_true] at HE
        have hne : W8.heap.size ≠ g := by omega
        go_wp2
        go_ret2
        exact takePost1 HE.out HO8.out.1.size HSA.out HLA.out HOA.out
    · have d3 : (f2 == t + 1) = false := beq_eq_false_iff_ne.mpr cS
      have d3' : (f2 == wrap64 (t + 1)) = false := beq_eq_false_iff_ne.mpr (fun e => cS (by rw [e]; unfold wrap64; omega))
      obtain ⟨z0, z1, z2, z3, z4, _, _, _, _, _⟩ := bx5 HX8.out
      obtain ⟨h0, h1, h2, h3, h4, h5, h6⟩ := HL8.out.cells
      have hf5 := HL8.out.frozen 5
      rw [HTT.out] at h4
      rw [HOO.out] at h5
      have HE : Aside0 (T = ({ l2 with owes := o || q }, [], true)) := ⟨by rw [HT2.out]; unfold LkS.take1; rw [HTT.out, if_neg cS, if_neg cS, ← HOB.out]⟩
      have HLA := Aside0.mk (HL8.out.set1 5 (.bool (o || q)) { l2 with owes := o || q } rfl rfl)
      have HOA := Aside0.mk (HO8.out.set_ 5 (.bool (o || q)))
      clear cS
      cases o
      case' true => clear hq
      case' false => cases q
      all_goals
        simp only [Bool.true_or, Bool.false_or, Bool.or_true, Bool.or_false] at HE HLA HOA
        go_wp2
        go_ret2
        exact takePost0 HE.out HLA.out HOA.out
theorem take_calls (b g : Nat) (l : LkS) (V : Value) (f : FrT) (w : World) (H : LkIs w b g l V) (hl : l.Ok) (hf0 : -9223372036854775808 ≤ f.f0) :
    Calls Try.prog 18 #[.pointer (some ⟨g, 0, none⟩), .agg #[.int .i64 f.f0, .int .i64 f.f1, .int .i64 f.f2, .int .i64 f.f3, .string f.f4]] w (TakePost w b g V (l.take f)) := by
  obtain ⟨f0, f1, f2, f3, f4⟩ := f
  dsimp only at hf0 ⊢
  by_cases hr : RightF ⟨f0, f1, f2, f3, f4⟩
  · by_cases hc : f0 < l.peer
    · exact take_old b g l V f0 f1 f2 f3 f4 _ w ⟨H⟩ ⟨hl⟩ ⟨rfl⟩ hf0 ⟨decide_eq_true hr⟩ hc
    · by_cases hs : l.peer < f0
      · by_cases hz : l.peer = 0
        · exact take_first b g l V f0 f1 f2 f3 f4 _ w ⟨H⟩ ⟨hl⟩ ⟨rfl⟩ hf0 ⟨decide_eq_true hr⟩ (by omega) hs hz
        · exact take_new b g l V f0 f1 f2 f3 f4 _ w ⟨H⟩ ⟨hl⟩ ⟨rfl⟩ hf0 ⟨decide_eq_true hr⟩ (by omega) hs hz
      · exact take_same b g l V f0 f1 f2 f3 f4 _ w ⟨H⟩ ⟨hl⟩ ⟨rfl⟩ hf0 ⟨decide_eq_true hr⟩ (by omega) (by omega)
  · exact take_no b g l V f0 f1 f2 f3 f4 _ w ⟨H⟩ ⟨hl⟩ ⟨rfl⟩ hf0 ⟨decide_eq_false hr⟩

end Go.Proofs.Ytdpogggajdfedaa.P
