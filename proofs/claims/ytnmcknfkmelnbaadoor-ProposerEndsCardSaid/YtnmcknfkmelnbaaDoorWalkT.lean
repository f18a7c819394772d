import Derived.Test.YtnmcknfkmelnbaaDoorPlainE
import Derived.Test.YtnmcknfkmelnbaaDoorPx22
import Derived.Test.YtnmcknfkmelnbaaDoorPx3
import Derived.Outline
import Derived.Laws.BitsAllLaws
import Derived.WalkSpells
import Derived.StillTailTactics
namespace Go.Proofs.YtnmcknfkmelnbaaDoor.P
open Go.RowKit Go.Proofs.YtnmcknfkmelnbaaDoorW.PrintWords Go.Proofs.YtnmcknfkmelnbaaDoorW.PrintLast Go.Proofs.YtnmcknfkmelnbaaDoorW.PrintMore
attribute [local go_sem] max2_int min2_int max_two min_two max_three min_three max_four min_four
set_option linter.unusedVariables false
set_option linter.unusedSimpArgs false
attribute [local go_sem high] eqA89
def takeR.T2 : Bool × List (List Nat × List Nat) := (true, [([], []), ([0], [0]), ([1], [1]), ([2], [2]), ([3, 2], [2, 3]), ([4, 2], [2, 4]), ([2, 5], [2, 5]), ([6, 2], [6]), ([7], [7]), ([8, 7], [7, 8]), ([9, 7, 7], [7, 9]), ([7], [7]), ([11, 10, 7], [7, 11]), ([10, 12, 7], [7, 10, 12]), ([13, 12, 7], [7, 13]), ([14], [14]), ([15, 14], [14, 15]), ([14], [14]), ([16, 17, 14], [14, 16, 17]), ([14, 18, 7], [7, 14, 18]), ([7, 19], [7, 19])])
def takeR.B2 : List Nat := [0, 1, 3, 7, 15, 31, 63, 127, 255, 511, 1023, 255, 4095, 8191, 16383, 32767, 65535, 32767, 262143, 524287, 1048575]
theorem takeR.tab2 : rtab .any (opsOf Tryd.f36 2) = takeR.T2 := by kernel_rfl
theorem takeR.bits2 : waitsOk takeR.T2.2 takeR.B2 = true := by kernel_rfl
/-- What stands while Take runs: its boxes. -/
structure TakS (w W : World) (b3 b4 b6 b8 : Nat) (a b c d : Int) (s : ByteArray) (r n : Int) (C6 C8 : Array Value) : Prop where
  X3 : W.heap[b3]? = some (.cells #[.int .i64 a, .int .i64 b, .int .i64 c, .int .i64 d, .string s] 34 (0, 0))
  X4 : W.heap[b4]? = some (.cells #[.int .i64 r, .int .i64 n] 23 (0, 0))
  X6 : W.heap[b6]? = some (.cells C6 34 (0, 0))
  X8 : W.heap[b8]? = some (.cells C8 34 (0, 0))
  B : Below w.heap.size w W
  ge : w.heap.size ≤ b6 ∧ w.heap.size ≤ b8
  ne : b3 ≠ b6 ∧ b3 ≠ b8 ∧ b4 ≠ b6 ∧ b4 ≠ b8 ∧ b6 ≠ b8
theorem TakS.below {w W W' : World} {b3 b4 b6 b8 : Nat} {a b c d : Int} {s : ByteArray} {r n : Int} {C6 C8 : Array Value} (h : TakS w W b3 b4 b6 b8 a b c d s r n C6 C8) (hb : Below W.heap.size W W') : TakS w W' b3 b4 b6 b8 a b c d s r n C6 C8 :=
  ⟨blk_below h.X3 hb, blk_below h.X4 hb, blk_below h.X6 hb, blk_below h.X8 hb, h.B.trans (hb.mono h.B.size), h.ge, h.ne⟩
theorem TakS.drew {w W : World} {b3 b4 b6 b8 : Nat} {a b c d : Int} {s : ByteArray} {r n : Int} {C6 C8 : Array Value} (h : TakS w W b3 b4 b6 b8 a b c d s r n C6 C8) : TakS w W.drew b3 b4 b6 b8 a b c d s r n C6 C8 := h.below (below_drew (Below.refl _ _))
theorem TakS.set6 {w W : World} {b3 b4 b6 b8 : Nat} {a b c d : Int} {s : ByteArray} {r n : Int} {C6 C8 : Array Value} (h : TakS w W b3 b4 b6 b8 a b c d s r n C6 C8) (i : Nat) (u : Value) : TakS w (W.setCell ⟨b6, i, none⟩ u) b3 b4 b6 b8 a b c d s r n (C6.setIfInBounds i u) C8 :=
  ⟨blk_far h.X3 h.ne.1 u, blk_far h.X4 h.ne.2.2.1 u, blk_set h.X6 i u, blk_far h.X8 (Ne.symm h.ne.2.2.2.2) u, below_set h.B h.ge.1, h.ge, h.ne⟩
theorem TakS.set8 {w W : World} {b3 b4 b6 b8 : Nat} {a b c d : Int} {s : ByteArray} {r n : Int} {C6 C8 : Array Value} (h : TakS w W b3 b4 b6 b8 a b c d s r n C6 C8) (i : Nat) (u : Value) : TakS w (W.setCell ⟨b8, i, none⟩ u) b3 b4 b6 b8 a b c d s r n C6 (C8.setIfInBounds i u) :=
  ⟨blk_far h.X3 h.ne.2.1 u, blk_far h.X4 h.ne.2.2.2.1 u, blk_far h.X6 h.ne.2.2.2.2 u, blk_set h.X8 i u, below_set h.B h.ge.2, h.ge, h.ne⟩
set_option maxHeartbeats 8000000 in
set_option maxRecDepth 100000 in
theorem take_c1 (a b c d : Int) (s : ByteArray) (r n : Int) (v : ByteArray) (w : World) (HP : Aside0 (acceptor_Prepare.f a b c d s r n = some (a, b, c, d, s, false))) :
    Calls Tryd.prog 36 #[.agg #[.int .i64 a, .int .i64 b, .int .i64 c, .int .i64 d, .string s], .agg #[.int .i64 r, .int .i64 n], .string v] w fun e w' => e = .returned (.tuple #[.agg #[.int .i64 a, .int .i64 b, .int .i64 c, .int .i64 d, .string s], .bool false]) ∧ Below w.heap.size w w' := by
  go_enter Tryd.func36, Tryd.ntmps36
  go_wp2_with (go_at_call 35; refine (acceptor_Prepare.calls a b c d s r n a b c d s false _ HP.out).mono ?_)
  rintro e W1 ⟨rfl, hb⟩
  obtain ⟨b3, hb3⟩ : ∃ b3, w.heap.size = b3 := ⟨_, rfl⟩
  obtain ⟨b8, hb8⟩ : ∃ b8, W1.heap.size = b8 := ⟨_, rfl⟩
  have hsz := hb.size
  have hX3 := blk_below (blk_alloc (blk_alloc (heap_alloc_new w (.cells #[.int .i64 a, .int .i64 b, .int .i64 c, .int .i64 d, .string s] 34)) (.cells #[.int .i64 r, .int .i64 n] 23)) (.cells #[.int .i64 0, .int .i64 0, .int .i64 0, .int .i64 0, .string ⟨#[]⟩] 34)) hb
  have hX4 := heap_alloc_new (w.alloc (.cells #[.int .i64 a, .int .i64 b, .int .i64 c, .int .i64 d, .string s] 34)) (.cells #[.int .i64 r, .int .i64 n] 23)
  rw [World.size_alloc] at hX4
  have hX4 := blk_below (blk_alloc hX4 (.cells #[.int .i64 0, .int .i64 0, .int .i64 0, .int .i64 0, .string ⟨#[]⟩] 34)) hb
  have hX6 := heap_alloc_new ((w.alloc (.cells #[.int .i64 a, .int .i64 b, .int .i64 c, .int .i64 d, .string s] 34)).alloc (.cells #[.int .i64 r, .int .i64 n] 23)) (.cells #[.int .i64 0, .int .i64 0, .int .i64 0, .int .i64 0, .string ⟨#[]⟩] 34)
  rw [World.size_alloc, World.size_alloc] at hX6
  have hX6 := blk_below hX6 hb
  have hB1 : Below w.heap.size w W1 := (below_alloc (below_alloc (below_alloc (Below.refl _ _) _) _) _).trans (hb.mono (by simp; omega))
  simp only [World.size_alloc] at hsz
  rw [hb3] at hX3 hX4 hX6
  rw [hb3, hb8] at hsz
  have hX8 := heap_alloc_new W1 (.cells #[.int .i64 a, .int .i64 b, .int .i64 c, .int .i64 d, .string s] 34)
  rw [hb8] at hX8
  have HS0 : Aside0 (TakS w (W1.alloc (.cells #[.int .i64 a, .int .i64 b, .int .i64 c, .int .i64 d, .string s] 34)) b3 (b3 + 1) (b3 + 1 + 1) b8 a b c d s r n #[.int .i64 0, .int .i64 0, .int .i64 0, .int .i64 0, .string ⟨#[]⟩] #[.int .i64 a, .int .i64 b, .int .i64 c, .int .i64 d, .string s]) := ⟨blk_alloc hX3 _, blk_alloc hX4 _, blk_alloc hX6 _, hX8, below_alloc hB1 _, ⟨by omega, by omega⟩, ⟨by omega, by omega, by omega, by omega, by omega⟩⟩
  clear hX3 hX4 hX6 hX8 hB1 hb HP
  go_wp2
  generalize W1.alloc (.cells #[.int .i64 a, .int .i64 b, .int .i64 c, .int .i64 d, .string s] 34) = W2 at HS0 ⊢
  refine start_ (n := 21) (S := fun W => TakS w W b3 (b3 + 1) (b3 + 1 + 1) b8 a b c d s r n #[.int .i64 0, .int .i64 0, .int .i64 0, .int .i64 0, .string ⟨#[]⟩] #[.int .i64 a, .int .i64 b, .int .i64 c, .int .i64 d, .string s]) (ds := []) (bz 21 0) (by kernel_rfl) rfl rfl HS0.out.drew (fun hHeld => ?_); refine with_tabW takeR.tab2 takeR.bits2 (fun HT_ HW_ => ?_)
  refine pu_ 0 (some 16) (bz 21 1) HT_.out ?_
  refine pu_ 1 (some 17) (bz 21 3) HT_.out ?_
  refine pu_ 2 (some 18) (bz 21 7) HT_.out ?_
  refine pu_ 3 (some 19) (bz 21 15) HT_.out ?_ (v := undef) (hy := Or.inr ⟨by rfl, rfl⟩)
  refine pu_ 4 (some 20) (bz 21 31) HT_.out ?_ (v := undef) (hy := Or.inr ⟨by rfl, rfl⟩)
  refine pu_ 5 (some 21) (bz 21 63) HT_.out ?_ (v := undef) (hy := Or.inr ⟨by rfl, rfl⟩)
  refine pu_ 6 (some 22) (bz 21 127) HT_.out ?_
  refine pu_ 7 (some 23) (bz 21 255) HT_.out ?_
  refine pu_ 8 (some 24) (bz 21 511) HT_.out ?_ (v := undef) (hy := Or.inr ⟨by rfl, rfl⟩)
  refine pu_ 9 (some 25) (bz 21 1023) HT_.out ?_ (v := undef) (hy := Or.inr ⟨by rfl, rfl⟩)
  refine pu_ 10 (some 26) (bz 21 2047) HT_.out ?_ (v := undef) (hy := Or.inr ⟨by rfl, rfl⟩)
  refine pu_ 11 (some 27) (bz 21 4095) HT_.out ?_ (v := undef) (hy := Or.inr ⟨by rfl, rfl⟩)
  refine pu_ 12 (some 28) (bz 21 8191) HT_.out ?_ (v := undef) (hy := Or.inr ⟨by rfl, rfl⟩)
  refine pu_ 13 (some 29) (bz 21 16383) HT_.out ?_ (v := undef) (hy := Or.inr ⟨by rfl, rfl⟩)
  refine pu_ 14 (some 30) (bz 21 32767) HT_.out ?_ (v := undef) (hy := Or.inr ⟨by rfl, rfl⟩)
  refine pu_ 15 (some 31) (bz 21 65535) HT_.out ?_ (v := undef) (hy := Or.inr ⟨by rfl, rfl⟩)
  refine pu_ 16 (some 32) (bz 21 131071) HT_.out ?_ (v := undef) (hy := Or.inr ⟨by rfl, rfl⟩)
  refine pu_ 17 (some 33) (bz 21 262143) HT_.out ?_ (v := undef) (hy := Or.inr ⟨by rfl, rfl⟩)
  refine pu_ 18 (some 34) (bz 21 524287) HT_.out ?_ (v := undef) (hy := Or.inr ⟨by rfl, rfl⟩)
  refine pu_ 19 (some 35) (bz 21 1048575) HT_.out ?_ (v := undef) (hy := Or.inr ⟨by rfl, rfl⟩)
  refine pu_ 20 (some 36) (bz 21 2097151) HT_.out ?_
  refine done_ (done_of HT_.out (by kernel_rfl)) ?_
  have HS := Aside0.mk hHeld
  clear hHeld HT_ HW_ HS0
  try generalize W2.drew = W3 at HS ⊢
  obtain ⟨z0, z1, z2, z3, z4, _, _, _, _, _⟩ := bx5 HS.out.X3
  obtain ⟨y0, y1, _, _⟩ := bx2 HS.out.X4
  obtain ⟨u0, u1, u2, u3, u4, fu0, fu1, fu2, fu3, fu4⟩ := bx5 HS.out.X8
  obtain ⟨t0, t1, t2, t3, t4, ft0, ft1, ft2, ft3, ft4⟩ := bx5 HS.out.X6
  obtain ⟨n1, n2, n3, n4, n5⟩ := HS.out.ne
  have n1' := Ne.symm n1
  have n2' := Ne.symm n2
  have n3' := Ne.symm n3
  have n4' := Ne.symm n4
  have n5' := Ne.symm n5
  go_wp2
  have HF := (((((HS.out.set6 0 (.int .i64 a)).set6 1 (.int .i64 b)).set6 2 (.int .i64 c)).set6 3 (.int .i64 d)).set6 4 (.string s))
  refine bodyPost_ret (results_ct rfl _ _ (b3 + 1 + 1) 34 #[.int .i64 a, .int .i64 b, .int .i64 c, .int .i64 d, .string s] (0, 0) _ rfl HF.X6 Tryd.underlying34 rfl (by kernel_rfl)) rfl ?_
  exact ⟨rfl, HF.B⟩
set_option maxHeartbeats 8000000 in
set_option maxRecDepth 100000 in
theorem take_c2 (a b c d : Int) (s : ByteArray) (r n : Int) (v : ByteArray) (w : World) (HP : Aside0 (acceptor_Prepare.f a b c d s r n = some (r, n, c, d, s, true))) (h1 : decide ((v.size : Int) > 100000) = true) (h1b : decide (100000 < (v.size : Int)) = true) (h1c : decide (100000 < v.size) = true) :
    Calls Tryd.prog 36 #[.agg #[.int .i64 a, .int .i64 b, .int .i64 c, .int .i64 d, .string s], .agg #[.int .i64 r, .int .i64 n], .string v] w fun e w' => e = .returned (.tuple #[.agg #[.int .i64 a, .int .i64 b, .int .i64 c, .int .i64 d, .string s], .bool false]) ∧ Below w.heap.size w w' := by
  go_enter Tryd.func36, Tryd.ntmps36
  go_wp2_with (go_at_call 35; refine (acceptor_Prepare.calls a b c d s r n r n c d s true _ HP.out).mono ?_)
  rintro e W1 ⟨rfl, hb⟩
  obtain ⟨b3, hb3⟩ : ∃ b3, w.heap.size = b3 := ⟨_, rfl⟩
  obtain ⟨b8, hb8⟩ : ∃ b8, W1.heap.size = b8 := ⟨_, rfl⟩
  have hsz := hb.size
  have hX3 := blk_below (blk_alloc (blk_alloc (heap_alloc_new w (.cells #[.int .i64 a, .int .i64 b, .int .i64 c, .int .i64 d, .string s] 34)) (.cells #[.int .i64 r, .int .i64 n] 23)) (.cells #[.int .i64 0, .int .i64 0, .int .i64 0, .int .i64 0, .string ⟨#[]⟩] 34)) hb
  have hX4 := heap_alloc_new (w.alloc (.cells #[.int .i64 a, .int .i64 b, .int .i64 c, .int .i64 d, .string s] 34)) (.cells #[.int .i64 r, .int .i64 n] 23)
  rw [World.size_alloc] at hX4
  have hX4 := blk_below (blk_alloc hX4 (.cells #[.int .i64 0, .int .i64 0, .int .i64 0, .int .i64 0, .string ⟨#[]⟩] 34)) hb
  have hX6 := heap_alloc_new ((w.alloc (.cells #[.int .i64 a, .int .i64 b, .int .i64 c, .int .i64 d, .string s] 34)).alloc (.cells #[.int .i64 r, .int .i64 n] 23)) (.cells #[.int .i64 0, .int .i64 0, .int .i64 0, .int .i64 0, .string ⟨#[]⟩] 34)
  rw [World.size_alloc, World.size_alloc] at hX6
  have hX6 := blk_below hX6 hb
  have hB1 : Below w.heap.size w W1 := (below_alloc (below_alloc (below_alloc (Below.refl _ _) _) _) _).trans (hb.mono (by simp; omega))
  simp only [World.size_alloc] at hsz
  rw [hb3] at hX3 hX4 hX6
  rw [hb3, hb8] at hsz
  have hX8 := heap_alloc_new W1 (.cells #[.int .i64 r, .int .i64 n, .int .i64 c, .int .i64 d, .string s] 34)
  rw [hb8] at hX8
  have HS0 : Aside0 (TakS w (W1.alloc (.cells #[.int .i64 r, .int .i64 n, .int .i64 c, .int .i64 d, .string s] 34)) b3 (b3 + 1) (b3 + 1 + 1) b8 a b c d s r n #[.int .i64 0, .int .i64 0, .int .i64 0, .int .i64 0, .string ⟨#[]⟩] #[.int .i64 r, .int .i64 n, .int .i64 c, .int .i64 d, .string s]) := ⟨blk_alloc hX3 _, blk_alloc hX4 _, blk_alloc hX6 _, hX8, below_alloc hB1 _, ⟨by omega, by omega⟩, ⟨by omega, by omega, by omega, by omega, by omega⟩⟩
  clear hX3 hX4 hX6 hX8 hB1 hb HP
  go_wp2
  generalize W1.alloc (.cells #[.int .i64 r, .int .i64 n, .int .i64 c, .int .i64 d, .string s] 34) = W2 at HS0 ⊢
  refine start_ (n := 21) (S := fun W => TakS w W b3 (b3 + 1) (b3 + 1 + 1) b8 a b c d s r n #[.int .i64 0, .int .i64 0, .int .i64 0, .int .i64 0, .string ⟨#[]⟩] #[.int .i64 r, .int .i64 n, .int .i64 c, .int .i64 d, .string s]) (ds := []) (bz 21 0) (by kernel_rfl) rfl rfl HS0.out.drew (fun hHeld => ?_); refine with_tabW takeR.tab2 takeR.bits2 (fun HT_ HW_ => ?_)
  refine pu_ 0 (some 16) (bz 21 1) HT_.out ?_
  refine pu_ 1 (some 17) (bz 21 3) HT_.out ?_
  refine pu_ 2 (some 18) (bz 21 7) HT_.out ?_
  refine pu_ 3 (some 19) (bz 21 15) HT_.out ?_
  refine pu_ 4 (some 20) (bz 21 31) HT_.out ?_
  refine pu_ 5 (some 21) (bz 21 63) HT_.out ?_
  refine pu_ 6 (some 22) (bz 21 127) HT_.out ?_
  refine pu_ 7 (some 23) (bz 21 255) HT_.out ?_
  refine pu_ 8 (some 24) (bz 21 511) HT_.out ?_ (v := undef) (hy := Or.inr ⟨by rfl, rfl⟩)
  refine pu_ 9 (some 25) (bz 21 1023) HT_.out ?_ (v := undef) (hy := Or.inr ⟨by rfl, rfl⟩)
  refine pu_ 10 (some 26) (bz 21 2047) HT_.out ?_ (v := undef) (hy := Or.inr ⟨by rfl, rfl⟩)
  refine pu_ 11 (some 27) (bz 21 4095) HT_.out ?_ (v := undef) (hy := Or.inr ⟨by rfl, rfl⟩)
  refine pu_ 12 (some 28) (bz 21 8191) HT_.out ?_ (v := undef) (hy := Or.inr ⟨by rfl, rfl⟩)
  refine pu_ 13 (some 29) (bz 21 16383) HT_.out ?_ (v := undef) (hy := Or.inr ⟨by rfl, rfl⟩)
  refine pu_ 14 (some 30) (bz 21 32767) HT_.out ?_ (v := undef) (hy := Or.inr ⟨by rfl, rfl⟩)
  refine pu_ 15 (some 31) (bz 21 65535) HT_.out ?_ (v := undef) (hy := Or.inr ⟨by rfl, rfl⟩)
  refine pu_ 16 (some 32) (bz 21 131071) HT_.out ?_ (v := undef) (hy := Or.inr ⟨by rfl, rfl⟩)
  refine pu_ 17 (some 33) (bz 21 262143) HT_.out ?_ (v := undef) (hy := Or.inr ⟨by rfl, rfl⟩)
  refine pu_ 18 (some 34) (bz 21 524287) HT_.out ?_ (v := undef) (hy := Or.inr ⟨by rfl, rfl⟩)
  refine pu_ 19 (some 35) (bz 21 1048575) HT_.out ?_ (v := undef) (hy := Or.inr ⟨by rfl, rfl⟩)
  refine pu_ 20 (some 36) (bz 21 2097151) HT_.out ?_
  refine done_ (done_of HT_.out (by kernel_rfl)) ?_
  have HS := Aside0.mk hHeld
  clear hHeld HT_ HW_ HS0
  try generalize W2.drew = W3 at HS ⊢
  obtain ⟨z0, z1, z2, z3, z4, _, _, _, _, _⟩ := bx5 HS.out.X3
  obtain ⟨y0, y1, _, _⟩ := bx2 HS.out.X4
  obtain ⟨u0, u1, u2, u3, u4, fu0, fu1, fu2, fu3, fu4⟩ := bx5 HS.out.X8
  obtain ⟨t0, t1, t2, t3, t4, ft0, ft1, ft2, ft3, ft4⟩ := bx5 HS.out.X6
  obtain ⟨n1, n2, n3, n4, n5⟩ := HS.out.ne
  have n1' := Ne.symm n1
  have n2' := Ne.symm n2
  have n3' := Ne.symm n3
  have n4' := Ne.symm n4
  have n5' := Ne.symm n5
  go_wp2
  have HF := (((((HS.out.set6 0 (.int .i64 a)).set6 1 (.int .i64 b)).set6 2 (.int .i64 c)).set6 3 (.int .i64 d)).set6 4 (.string s))
  refine bodyPost_ret (results_ct rfl _ _ (b3 + 1 + 1) 34 #[.int .i64 a, .int .i64 b, .int .i64 c, .int .i64 d, .string s] (0, 0) _ rfl HF.X6 Tryd.underlying34 rfl (by kernel_rfl)) rfl ?_
  exact ⟨rfl, HF.B⟩
set_option maxHeartbeats 8000000 in
set_option maxRecDepth 100000 in
theorem take_c3 (a b c d : Int) (s : ByteArray) (r n : Int) (v : ByteArray) (w : World) (HP : Aside0 (acceptor_Prepare.f a b c d s r n = some (r, n, c, d, s, true))) (h1 : decide ((v.size : Int) > 100000) = false) (h1b : decide (100000 < (v.size : Int)) = false) (h1c : decide (100000 < v.size) = false) (h2 : (c == r && (d == n)) = true) (h3 : (s.toList == v.toList) = false) (h3b : (s.toList != v.toList) = true) :
    Calls Tryd.prog 36 #[.agg #[.int .i64 a, .int .i64 b, .int .i64 c, .int .i64 d, .string s], .agg #[.int .i64 r, .int .i64 n], .string v] w fun e w' => e = .returned (.tuple #[.agg #[.int .i64 a, .int .i64 b, .int .i64 c, .int .i64 d, .string s], .bool false]) ∧ Below w.heap.size w w' := by
  go_enter Tryd.func36, Tryd.ntmps36
  go_wp2_with (go_at_call 35; refine (acceptor_Prepare.calls a b c d s r n r n c d s true _ HP.out).mono ?_)
  rintro e W1 ⟨rfl, hb⟩
  obtain ⟨b3, hb3⟩ : ∃ b3, w.heap.size = b3 := ⟨_, rfl⟩
  obtain ⟨b8, hb8⟩ : ∃ b8, W1.heap.size = b8 := ⟨_, rfl⟩
  have hsz := hb.size
  have hX3 := blk_below (blk_alloc (blk_alloc (heap_alloc_new w (.cells #[.int .i64 a, .int .i64 b, .int .i64 c, .int .i64 d, .string s] 34)) (.cells #[.int .i64 r, .int .i64 n] 23)) (.cells #[.int .i64 0, .int .i64 0, .int .i64 0, .int .i64 0, .string ⟨#[]⟩] 34)) hb
  have hX4 := heap_alloc_new (w.alloc (.cells #[.int .i64 a, .int .i64 b, .int .i64 c, .int .i64 d, .string s] 34)) (.cells #[.int .i64 r, .int .i64 n] 23)
  rw [World.size_alloc] at hX4
  have hX4 := blk_below (blk_alloc hX4 (.cells #[.int .i64 0, .int .i64 0, .int .i64 0, .int .i64 0, .string ⟨#[]⟩] 34)) hb
  have hX6 := heap_alloc_new ((w.alloc (.cells #[.int .i64 a, .int .i64 b, .int .i64 c, .int .i64 d, .string s] 34)).alloc (.cells #[.int .i64 r, .int .i64 n] 23)) (.cells #[.int .i64 0, .int .i64 0, .int .i64 0, .int .i64 0, .string ⟨#[]⟩] 34)
  rw [World.size_alloc, World.size_alloc] at hX6
  have hX6 := blk_below hX6 hb
  have hB1 : Below w.heap.size w W1 := (below_alloc (below_alloc (below_alloc (Below.refl _ _) _) _) _).trans (hb.mono (by simp; omega))
  simp only [World.size_alloc] at hsz
  rw [hb3] at hX3 hX4 hX6
  rw [hb3, hb8] at hsz
  have hX8 := heap_alloc_new W1 (.cells #[.int .i64 r, .int .i64 n, .int .i64 c, .int .i64 d, .string s] 34)
  rw [hb8] at hX8
  have HS0 : Aside0 (TakS w (W1.alloc (.cells #[.int .i64 r, .int .i64 n, .int .i64 c, .int .i64 d, .string s] 34)) b3 (b3 + 1) (b3 + 1 + 1) b8 a b c d s r n #[.int .i64 0, .int .i64 0, .int .i64 0, .int .i64 0, .string ⟨#[]⟩] #[.int .i64 r, .int .i64 n, .int .i64 c, .int .i64 d, .string s]) := ⟨blk_alloc hX3 _, blk_alloc hX4 _, blk_alloc hX6 _, hX8, below_alloc hB1 _, ⟨by omega, by omega⟩, ⟨by omega, by omega, by omega, by omega, by omega⟩⟩
  clear hX3 hX4 hX6 hX8 hB1 hb HP
  go_wp2
  generalize W1.alloc (.cells #[.int .i64 r, .int .i64 n, .int .i64 c, .int .i64 d, .string s] 34) = W2 at HS0 ⊢
  refine start_ (n := 21) (S := fun W => TakS w W b3 (b3 + 1) (b3 + 1 + 1) b8 a b c d s r n #[.int .i64 0, .int .i64 0, .int .i64 0, .int .i64 0, .string ⟨#[]⟩] #[.int .i64 r, .int .i64 n, .int .i64 c, .int .i64 d, .string s]) (ds := []) (bz 21 0) (by kernel_rfl) rfl rfl HS0.out.drew (fun hHeld => ?_); refine with_tabW takeR.tab2 takeR.bits2 (fun HT_ HW_ => ?_)
  refine pu_ 0 (some 16) (bz 21 1) HT_.out ?_
  refine pu_ 1 (some 17) (bz 21 3) HT_.out ?_
  refine pu_ 2 (some 18) (bz 21 7) HT_.out ?_
  refine pu_ 3 (some 19) (bz 21 15) HT_.out ?_
  refine pu_ 4 (some 20) (bz 21 31) HT_.out ?_
  refine pu_ 5 (some 21) (bz 21 63) HT_.out ?_
  refine pu_ 6 (some 22) (bz 21 127) HT_.out ?_
  refine pu_ 7 (some 23) (bz 21 255) HT_.out ?_
  refine pu_ 8 (some 24) (bz 21 511) HT_.out ?_
  refine take_ (i := 9) (N := (some 25)) (v := ?_) (a' := ?_) (bz 21 1023) rfl rfl (take_ofW HT_.out HW_.out (by kernel_rfl)) (fun _ _ _ h => h) (Or.inl ⟨by rfl, ?_⟩) hHeld ?_ ?_
  rotate_left
  · rintro w' s0
    obtain ⟨z0, z1, z2, z3, z4, _, _, _, _, _⟩ := bx5 s0.X3
    go_simp
    with_reducible rfl
  rotate_left
  · simp only [Act.put, sl1, sl2, sl3, i64_w, i32_w]
    rfl
  refine take_ (i := 11) (N := (some 27)) (v := ?_) (a' := ?_) (bz 21 3071) rfl rfl (take_ofW HT_.out HW_.out (by kernel_rfl)) (fun _ _ _ h => h) (Or.inl ⟨by rfl, ?_⟩) hHeld ?_ ?_
  rotate_left
  · rintro w' s0
    obtain ⟨z0, z1, _, _⟩ := bx2 s0.X4
    go_simp
    with_reducible rfl
  rotate_left
  · simp only [Act.put, sl1, sl2, sl3, i64_w, i32_w]
    rfl
  refine one_ (i := 10) (N := (some 26)) (bz 21 4095) rfl rfl (one_of HT_.out (by kernel_rfl)) (by decide) (fun K hK => ?_)
  refine goes_ Tryd.func39 (by kernel_rfl) rfl #[.agg #[.int .i64 c, .int .i64 d]] (by rfl) rfl rfl am ?_
  refine (acceptor_pair.calls c d c d _ rfl).mono ?_
  rintro e w1 ⟨rfl, hb⟩
  refine ⟨_, rfl, ?_⟩
  have hH2 := hHeld.below hb
  refine hK.out _ _ hH2 (fun hHeld => ?_)
  clear hK K
  refine norm_ (a' := ?_) ?_ ?_
  rotate_left
  · show Act.put _ (some 26) _ = _
    simp only [Act.put, sl1, sl2, sl3, i64_w, i32_w]
    rfl
  refine one_ (i := 12) (N := (some 28)) (bz 21 8191) rfl rfl (one_of HT_.out (by kernel_rfl)) (by decide) (fun K hK => ?_)
  refine goes_ Tryd.func39 (by kernel_rfl) rfl #[.agg #[.int .i64 r, .int .i64 n]] (by rfl) rfl rfl am ?_
  refine (acceptor_pair.calls r n r n _ rfl).mono ?_
  rintro e w2 ⟨rfl, hb2⟩
  refine ⟨_, rfl, ?_⟩
  have hH3 := hHeld.below hb2
  refine hK.out _ _ hH3 (fun hHeld => ?_)
  clear hK K
  refine norm_ (a' := ?_) ?_ ?_
  rotate_left
  · show Act.put _ (some 28) _ = _
    simp only [Act.put, sl1, sl2, sl3, i64_w, i32_w]
    rfl
  refine pu_ 13 (some 29) (bz 21 16383) HT_.out ?_
  refine pu_ 14 (some 30) (bz 21 32767) HT_.out ?_
  refine pu_ 15 (some 31) (bz 21 65535) HT_.out ?_
  refine pu_ 17 (some 33) (bz 21 196607) HT_.out ?_
  refine take_ (i := 16) (N := (some 32)) (v := ?_) (a' := ?_) (bz 21 262143) rfl rfl (take_ofW HT_.out HW_.out (by kernel_rfl)) (fun _ _ _ h => h) (Or.inl ⟨by rfl, ?_⟩) hHeld ?_ ?_
  rotate_left
  · rintro w' s0
    obtain ⟨z0, z1, z2, z3, z4, _, _, _, _, _⟩ := bx5 s0.X3
    go_simp
    with_reducible rfl
  rotate_left
  · simp only [Act.put, sl1, sl2, sl3, i64_w, i32_w]
    rfl
  refine pu_ 18 (some 34) (bz 21 524287) HT_.out ?_
  refine pu_ 19 (some 35) (bz 21 1048575) HT_.out ?_
  refine pu_ 20 (some 36) (bz 21 2097151) HT_.out ?_
  refine done_ (done_of HT_.out (by kernel_rfl)) ?_
  have HS := Aside0.mk hHeld
  clear hHeld HT_ HW_ HS0
  try generalize W2.drew = W3 at HS ⊢
  obtain ⟨z0, z1, z2, z3, z4, _, _, _, _, _⟩ := bx5 HS.out.X3
  obtain ⟨y0, y1, _, _⟩ := bx2 HS.out.X4
  obtain ⟨u0, u1, u2, u3, u4, fu0, fu1, fu2, fu3, fu4⟩ := bx5 HS.out.X8
  obtain ⟨t0, t1, t2, t3, t4, ft0, ft1, ft2, ft3, ft4⟩ := bx5 HS.out.X6
  obtain ⟨n1, n2, n3, n4, n5⟩ := HS.out.ne
  have n1' := Ne.symm n1
  have n2' := Ne.symm n2
  have n3' := Ne.symm n3
  have n4' := Ne.symm n4
  have n5' := Ne.symm n5
  go_wp2
  have HF := (((((HS.out.set6 0 (.int .i64 a)).set6 1 (.int .i64 b)).set6 2 (.int .i64 c)).set6 3 (.int .i64 d)).set6 4 (.string s))
  refine bodyPost_ret (results_ct rfl _ _ (b3 + 1 + 1) 34 #[.int .i64 a, .int .i64 b, .int .i64 c, .int .i64 d, .string s] (0, 0) _ rfl HF.X6 Tryd.underlying34 rfl (by kernel_rfl)) rfl ?_
  exact ⟨rfl, HF.B⟩
set_option maxHeartbeats 8000000 in
set_option maxRecDepth 100000 in
theorem take_c4 (a b c d : Int) (s : ByteArray) (r n : Int) (v : ByteArray) (w : World) (HP : Aside0 (acceptor_Prepare.f a b c d s r n = some (r, n, c, d, s, true))) (h1 : decide ((v.size : Int) > 100000) = false) (h1b : decide (100000 < (v.size : Int)) = false) (h1c : decide (100000 < v.size) = false) (h2 : (c == r && (d == n)) = true) (h3 : (s.toList == v.toList) = true) (h3b : (s.toList != v.toList) = false) :
    Calls Tryd.prog 36 #[.agg #[.int .i64 a, .int .i64 b, .int .i64 c, .int .i64 d, .string s], .agg #[.int .i64 r, .int .i64 n], .string v] w fun e w' => e = .returned (.tuple #[.agg #[.int .i64 r, .int .i64 n, .int .i64 r, .int .i64 n, .string v], .bool true]) ∧ Below w.heap.size w w' := by
  go_enter Tryd.func36, Tryd.ntmps36
  go_wp2_with (go_at_call 35; refine (acceptor_Prepare.calls a b c d s r n r n c d s true _ HP.out).mono ?_)
  rintro e W1 ⟨rfl, hb⟩
  obtain ⟨b3, hb3⟩ : ∃ b3, w.heap.size = b3 := ⟨_, rfl⟩
  obtain ⟨b8, hb8⟩ : ∃ b8, W1.heap.size = b8 := ⟨_, rfl⟩
  have hsz := hb.size
  have hX3 := blk_below (blk_alloc (blk_alloc (heap_alloc_new w (.cells #[.int .i64 a, .int .i64 b, .int .i64 c, .int .i64 d, .string s] 34)) (.cells #[.int .i64 r, .int .i64 n] 23)) (.cells #[.int .i64 0, .int .i64 0, .int .i64 0, .int .i64 0, .string ⟨#[]⟩] 34)) hb
  have hX4 := heap_alloc_new (w.alloc (.cells #[.int .i64 a, .int .i64 b, .int .i64 c, .int .i64 d, .string s] 34)) (.cells #[.int .i64 r, .int .i64 n] 23)
  rw [World.size_alloc] at hX4
  have hX4 := blk_below (blk_alloc hX4 (.cells #[.int .i64 0, .int .i64 0, .int .i64 0, .int .i64 0, .string ⟨#[]⟩] 34)) hb
  have hX6 := heap_alloc_new ((w.alloc (.cells #[.int .i64 a, .int .i64 b, .int .i64 c, .int .i64 d, .string s] 34)).alloc (.cells #[.int .i64 r, .int .i64 n] 23)) (.cells #[.int .i64 0, .int .i64 0, .int .i64 0, .int .i64 0, .string ⟨#[]⟩] 34)
  rw [World.size_alloc, World.size_alloc] at hX6
  have hX6 := blk_below hX6 hb
  have hB1 : Below w.heap.size w W1 := (below_alloc (below_alloc (below_alloc (Below.refl _ _) _) _) _).trans (hb.mono (by simp; omega))
  simp only [World.size_alloc] at hsz
  rw [hb3] at hX3 hX4 hX6
  rw [hb3, hb8] at hsz
  have hX8 := heap_alloc_new W1 (.cells #[.int .i64 r, .int .i64 n, .int .i64 c, .int .i64 d, .string s] 34)
  rw [hb8] at hX8
  have HS0 : Aside0 (TakS w (W1.alloc (.cells #[.int .i64 r, .int .i64 n, .int .i64 c, .int .i64 d, .string s] 34)) b3 (b3 + 1) (b3 + 1 + 1) b8 a b c d s r n #[.int .i64 0, .int .i64 0, .int .i64 0, .int .i64 0, .string ⟨#[]⟩] #[.int .i64 r, .int .i64 n, .int .i64 c, .int .i64 d, .string s]) := ⟨blk_alloc hX3 _, blk_alloc hX4 _, blk_alloc hX6 _, hX8, below_alloc hB1 _, ⟨by omega, by omega⟩, ⟨by omega, by omega, by omega, by omega, by omega⟩⟩
  clear hX3 hX4 hX6 hX8 hB1 hb HP
  go_wp2
  generalize W1.alloc (.cells #[.int .i64 r, .int .i64 n, .int .i64 c, .int .i64 d, .string s] 34) = W2 at HS0 ⊢
  refine start_ (n := 21) (S := fun W => TakS w W b3 (b3 + 1) (b3 + 1 + 1) b8 a b c d s r n #[.int .i64 0, .int .i64 0, .int .i64 0, .int .i64 0, .string ⟨#[]⟩] #[.int .i64 r, .int .i64 n, .int .i64 c, .int .i64 d, .string s]) (ds := []) (bz 21 0) (by kernel_rfl) rfl rfl HS0.out.drew (fun hHeld => ?_); refine with_tabW takeR.tab2 takeR.bits2 (fun HT_ HW_ => ?_)
  refine pu_ 0 (some 16) (bz 21 1) HT_.out ?_
  refine pu_ 1 (some 17) (bz 21 3) HT_.out ?_
  refine pu_ 2 (some 18) (bz 21 7) HT_.out ?_
  refine pu_ 3 (some 19) (bz 21 15) HT_.out ?_
  refine pu_ 4 (some 20) (bz 21 31) HT_.out ?_
  refine pu_ 5 (some 21) (bz 21 63) HT_.out ?_
  refine pu_ 6 (some 22) (bz 21 127) HT_.out ?_
  refine pu_ 7 (some 23) (bz 21 255) HT_.out ?_
  refine pu_ 8 (some 24) (bz 21 511) HT_.out ?_
  refine take_ (i := 9) (N := (some 25)) (v := ?_) (a' := ?_) (bz 21 1023) rfl rfl (take_ofW HT_.out HW_.out (by kernel_rfl)) (fun _ _ _ h => h) (Or.inl ⟨by rfl, ?_⟩) hHeld ?_ ?_
  rotate_left
  · rintro w' s0
    obtain ⟨z0, z1, z2, z3, z4, _, _, _, _, _⟩ := bx5 s0.X3
    go_simp
    with_reducible rfl
  rotate_left
  · simp only [Act.put, sl1, sl2, sl3, i64_w, i32_w]
    rfl
  refine take_ (i := 11) (N := (some 27)) (v := ?_) (a' := ?_) (bz 21 3071) rfl rfl (take_ofW HT_.out HW_.out (by kernel_rfl)) (fun _ _ _ h => h) (Or.inl ⟨by rfl, ?_⟩) hHeld ?_ ?_
  rotate_left
  · rintro w' s0
    obtain ⟨z0, z1, _, _⟩ := bx2 s0.X4
    go_simp
    with_reducible rfl
  rotate_left
  · simp only [Act.put, sl1, sl2, sl3, i64_w, i32_w]
    rfl
  refine one_ (i := 10) (N := (some 26)) (bz 21 4095) rfl rfl (one_of HT_.out (by kernel_rfl)) (by decide) (fun K hK => ?_)
  refine goes_ Tryd.func39 (by kernel_rfl) rfl #[.agg #[.int .i64 c, .int .i64 d]] (by rfl) rfl rfl am ?_
  refine (acceptor_pair.calls c d c d _ rfl).mono ?_
  rintro e w1 ⟨rfl, hb⟩
  refine ⟨_, rfl, ?_⟩
  have hH2 := hHeld.below hb
  refine hK.out _ _ hH2 (fun hHeld => ?_)
  clear hK K
  refine norm_ (a' := ?_) ?_ ?_
  rotate_left
  · show Act.put _ (some 26) _ = _
    simp only [Act.put, sl1, sl2, sl3, i64_w, i32_w]
    rfl
  refine one_ (i := 12) (N := (some 28)) (bz 21 8191) rfl rfl (one_of HT_.out (by kernel_rfl)) (by decide) (fun K hK => ?_)
  refine goes_ Tryd.func39 (by kernel_rfl) rfl #[.agg #[.int .i64 r, .int .i64 n]] (by rfl) rfl rfl am ?_
  refine (acceptor_pair.calls r n r n _ rfl).mono ?_
  rintro e w2 ⟨rfl, hb2⟩
  refine ⟨_, rfl, ?_⟩
  have hH3 := hHeld.below hb2
  refine hK.out _ _ hH3 (fun hHeld => ?_)
  clear hK K
  refine norm_ (a' := ?_) ?_ ?_
  rotate_left
  · show Act.put _ (some 28) _ = _
    simp only [Act.put, sl1, sl2, sl3, i64_w, i32_w]
    rfl
  refine pu_ 13 (some 29) (bz 21 16383) HT_.out ?_
  refine pu_ 14 (some 30) (bz 21 32767) HT_.out ?_
  refine pu_ 15 (some 31) (bz 21 65535) HT_.out ?_
  refine pu_ 17 (some 33) (bz 21 196607) HT_.out ?_
  refine take_ (i := 16) (N := (some 32)) (v := ?_) (a' := ?_) (bz 21 262143) rfl rfl (take_ofW HT_.out HW_.out (by kernel_rfl)) (fun _ _ _ h => h) (Or.inl ⟨by rfl, ?_⟩) hHeld ?_ ?_
  rotate_left
  · rintro w' s0
    obtain ⟨z0, z1, z2, z3, z4, _, _, _, _, _⟩ := bx5 s0.X3
    go_simp
    with_reducible rfl
  rotate_left
  · simp only [Act.put, sl1, sl2, sl3, i64_w, i32_w]
    rfl
  refine pu_ 18 (some 34) (bz 21 524287) HT_.out ?_
  refine pu_ 19 (some 35) (bz 21 1048575) HT_.out ?_
  refine pu_ 20 (some 36) (bz 21 2097151) HT_.out ?_
  refine done_ (done_of HT_.out (by kernel_rfl)) ?_
  have HS := Aside0.mk hHeld
  clear hHeld HT_ HW_ HS0
  try generalize W2.drew = W3 at HS ⊢
  obtain ⟨z0, z1, z2, z3, z4, _, _, _, _, _⟩ := bx5 HS.out.X3
  obtain ⟨y0, y1, _, _⟩ := bx2 HS.out.X4
  obtain ⟨u0, u1, u2, u3, u4, fu0, fu1, fu2, fu3, fu4⟩ := bx5 HS.out.X8
  obtain ⟨t0, t1, t2, t3, t4, ft0, ft1, ft2, ft3, ft4⟩ := bx5 HS.out.X6
  obtain ⟨n1, n2, n3, n4, n5⟩ := HS.out.ne
  have n1' := Ne.symm n1
  have n2' := Ne.symm n2
  have n3' := Ne.symm n3
  have n4' := Ne.symm n4
  have n5' := Ne.symm n5
  go_wp2
  have HF := (((((((HS.out.set8 2 (.int .i64 r)).set8 3 (.int .i64 n)).set8 4 (.string v)).set6 0 (.int .i64 r)).set6 1 (.int .i64 n)).set6 2 (.int .i64 r)).set6 3 (.int .i64 n)).set6 4 (.string v)
  refine bodyPost_ret (results_ct rfl _ _ (b3 + 1 + 1) 34 #[.int .i64 r, .int .i64 n, .int .i64 r, .int .i64 n, .string v] (0, 0) _ rfl HF.X6 Tryd.underlying34 rfl (by kernel_rfl)) rfl ?_
  exact ⟨rfl, HF.B⟩
set_option maxHeartbeats 8000000 in
set_option maxRecDepth 100000 in
theorem take_c5 (a b c d : Int) (s : ByteArray) (r n : Int) (v : ByteArray) (w : World) (HP : Aside0 (acceptor_Prepare.f a b c d s r n = some (r, n, c, d, s, true))) (h1 : decide ((v.size : Int) > 100000) = false) (h1b : decide (100000 < (v.size : Int)) = false) (h1c : decide (100000 < v.size) = false) (h2 : (c == r && (d == n)) = false) :
    Calls Tryd.prog 36 #[.agg #[.int .i64 a, .int .i64 b, .int .i64 c, .int .i64 d, .string s], .agg #[.int .i64 r, .int .i64 n], .string v] w fun e w' => e = .returned (.tuple #[.agg #[.int .i64 r, .int .i64 n, .int .i64 r, .int .i64 n, .string v], .bool true]) ∧ Below w.heap.size w w' := by
  go_enter Tryd.func36, Tryd.ntmps36
  go_wp2_with (go_at_call 35; refine (acceptor_Prepare.calls a b c d s r n r n c d s true _ HP.out).mono ?_)
  rintro e W1 ⟨rfl, hb⟩
  obtain ⟨b3, hb3⟩ : ∃ b3, w.heap.size = b3 := ⟨_, rfl⟩
  obtain ⟨b8, hb8⟩ : ∃ b8, W1.heap.size = b8 := ⟨_, rfl⟩
  have hsz := hb.size
  have hX3 := blk_below (blk_alloc (blk_alloc (heap_alloc_new w (.cells #[.int .i64 a, .int .i64 b, .int .i64 c, .int .i64 d, .string s] 34)) (.cells #[.int .i64 r, .int .i64 n] 23)) (.cells #[.int .i64 0, .int .i64 0, .int .i64 0, .int .i64 0, .string ⟨#[]⟩] 34)) hb
  have hX4 := heap_alloc_new (w.alloc (.cells #[.int .i64 a, .int .i64 b, .int .i64 c, .int .i64 d, .string s] 34)) (.cells #[.int .i64 r, .int .i64 n] 23)
  rw [World.size_alloc] at hX4
  have hX4 := blk_below (blk_alloc hX4 (.cells #[.int .i64 0, .int .i64 0, .int .i64 0, .int .i64 0, .string ⟨#[]⟩] 34)) hb
  have hX6 := heap_alloc_new ((w.alloc (.cells #[.int .i64 a, .int .i64 b, .int .i64 c, .int .i64 d, .string s] 34)).alloc (.cells #[.int .i64 r, .int .i64 n] 23)) (.cells #[.int .i64 0, .int .i64 0, .int .i64 0, .int .i64 0, .string ⟨#[]⟩] 34)
  rw [World.size_alloc, World.size_alloc] at hX6
  have hX6 := blk_below hX6 hb
  have hB1 : Below w.heap.size w W1 := (below_alloc (below_alloc (below_alloc (Below.refl _ _) _) _) _).trans (hb.mono (by simp; omega))
  simp only [World.size_alloc] at hsz
  rw [hb3] at hX3 hX4 hX6
  rw [hb3, hb8] at hsz
  have hX8 := heap_alloc_new W1 (.cells #[.int .i64 r, .int .i64 n, .int .i64 c, .int .i64 d, .string s] 34)
  rw [hb8] at hX8
  have HS0 : Aside0 (TakS w (W1.alloc (.cells #[.int .i64 r, .int .i64 n, .int .i64 c, .int .i64 d, .string s] 34)) b3 (b3 + 1) (b3 + 1 + 1) b8 a b c d s r n #[.int .i64 0, .int .i64 0, .int .i64 0, .int .i64 0, .string ⟨#[]⟩] #[.int .i64 r, .int .i64 n, .int .i64 c, .int .i64 d, .string s]) := ⟨blk_alloc hX3 _, blk_alloc hX4 _, blk_alloc hX6 _, hX8, below_alloc hB1 _, ⟨by omega, by omega⟩, ⟨by omega, by omega, by omega, by omega, by omega⟩⟩
  clear hX3 hX4 hX6 hX8 hB1 hb HP
  go_wp2
  generalize W1.alloc (.cells #[.int .i64 r, .int .i64 n, .int .i64 c, .int .i64 d, .string s] 34) = W2 at HS0 ⊢
  refine start_ (n := 21) (S := fun W => TakS w W b3 (b3 + 1) (b3 + 1 + 1) b8 a b c d s r n #[.int .i64 0, .int .i64 0, .int .i64 0, .int .i64 0, .string ⟨#[]⟩] #[.int .i64 r, .int .i64 n, .int .i64 c, .int .i64 d, .string s]) (ds := []) (bz 21 0) (by kernel_rfl) rfl rfl HS0.out.drew (fun hHeld => ?_); refine with_tabW takeR.tab2 takeR.bits2 (fun HT_ HW_ => ?_)
  refine pu_ 0 (some 16) (bz 21 1) HT_.out ?_
  refine pu_ 1 (some 17) (bz 21 3) HT_.out ?_
  refine pu_ 2 (some 18) (bz 21 7) HT_.out ?_
  refine pu_ 3 (some 19) (bz 21 15) HT_.out ?_
  refine pu_ 4 (some 20) (bz 21 31) HT_.out ?_
  refine pu_ 5 (some 21) (bz 21 63) HT_.out ?_
  refine pu_ 6 (some 22) (bz 21 127) HT_.out ?_
  refine pu_ 7 (some 23) (bz 21 255) HT_.out ?_
  refine pu_ 8 (some 24) (bz 21 511) HT_.out ?_
  refine take_ (i := 9) (N := (some 25)) (v := ?_) (a' := ?_) (bz 21 1023) rfl rfl (take_ofW HT_.out HW_.out (by kernel_rfl)) (fun _ _ _ h => h) (Or.inl ⟨by rfl, ?_⟩) hHeld ?_ ?_
  rotate_left
  · rintro w' s0
    obtain ⟨z0, z1, z2, z3, z4, _, _, _, _, _⟩ := bx5 s0.X3
    go_simp
    with_reducible rfl
  rotate_left
  · simp only [Act.put, sl1, sl2, sl3, i64_w, i32_w]
    rfl
  refine take_ (i := 11) (N := (some 27)) (v := ?_) (a' := ?_) (bz 21 3071) rfl rfl (take_ofW HT_.out HW_.out (by kernel_rfl)) (fun _ _ _ h => h) (Or.inl ⟨by rfl, ?_⟩) hHeld ?_ ?_
  rotate_left
  · rintro w' s0
    obtain ⟨z0, z1, _, _⟩ := bx2 s0.X4
    go_simp
    with_reducible rfl
  rotate_left
  · simp only [Act.put, sl1, sl2, sl3, i64_w, i32_w]
    rfl
  refine one_ (i := 10) (N := (some 26)) (bz 21 4095) rfl rfl (one_of HT_.out (by kernel_rfl)) (by decide) (fun K hK => ?_)
  refine goes_ Tryd.func39 (by kernel_rfl) rfl #[.agg #[.int .i64 c, .int .i64 d]] (by rfl) rfl rfl am ?_
  refine (acceptor_pair.calls c d c d _ rfl).mono ?_
  rintro e w1 ⟨rfl, hb⟩
  refine ⟨_, rfl, ?_⟩
  have hH2 := hHeld.below hb
  refine hK.out _ _ hH2 (fun hHeld => ?_)
  clear hK K
  refine norm_ (a' := ?_) ?_ ?_
  rotate_left
  · show Act.put _ (some 26) _ = _
    simp only [Act.put, sl1, sl2, sl3, i64_w, i32_w]
    rfl
  refine one_ (i := 12) (N := (some 28)) (bz 21 8191) rfl rfl (one_of HT_.out (by kernel_rfl)) (by decide) (fun K hK => ?_)
  refine goes_ Tryd.func39 (by kernel_rfl) rfl #[.agg #[.int .i64 r, .int .i64 n]] (by rfl) rfl rfl am ?_
  refine (acceptor_pair.calls r n r n _ rfl).mono ?_
  rintro e w2 ⟨rfl, hb2⟩
  refine ⟨_, rfl, ?_⟩
  have hH3 := hHeld.below hb2
  refine hK.out _ _ hH3 (fun hHeld => ?_)
  clear hK K
  refine norm_ (a' := ?_) ?_ ?_
  rotate_left
  · show Act.put _ (some 28) _ = _
    simp only [Act.put, sl1, sl2, sl3, i64_w, i32_w]
    rfl
  refine pu_ 13 (some 29) (bz 21 16383) HT_.out ?_
  refine pu_ 14 (some 30) (bz 21 32767) HT_.out ?_
  refine pu_ 15 (some 31) (bz 21 65535) HT_.out ?_ (v := undef) (hy := Or.inr ⟨by rfl, rfl⟩)
  refine pu_ 16 (some 32) (bz 21 131071) HT_.out ?_ (v := undef) (hy := Or.inr ⟨by rfl, rfl⟩)
  refine pu_ 17 (some 33) (bz 21 262143) HT_.out ?_ (v := undef) (hy := Or.inr ⟨by rfl, rfl⟩)
  refine pu_ 18 (some 34) (bz 21 524287) HT_.out ?_ (v := undef) (hy := Or.inr ⟨by rfl, rfl⟩)
  refine pu_ 19 (some 35) (bz 21 1048575) HT_.out ?_
  refine pu_ 20 (some 36) (bz 21 2097151) HT_.out ?_
  refine done_ (done_of HT_.out (by kernel_rfl)) ?_
  have HS := Aside0.mk hHeld
  clear hHeld HT_ HW_ HS0
  try generalize W2.drew = W3 at HS ⊢
  obtain ⟨z0, z1, z2, z3, z4, _, _, _, _, _⟩ := bx5 HS.out.X3
  obtain ⟨y0, y1, _, _⟩ := bx2 HS.out.X4
  obtain ⟨u0, u1, u2, u3, u4, fu0, fu1, fu2, fu3, fu4⟩ := bx5 HS.out.X8
  obtain ⟨t0, t1, t2, t3, t4, ft0, ft1, ft2, ft3, ft4⟩ := bx5 HS.out.X6
  obtain ⟨n1, n2, n3, n4, n5⟩ := HS.out.ne
  have n1' := Ne.symm n1
  have n2' := Ne.symm n2
  have n3' := Ne.symm n3
  have n4' := Ne.symm n4
  have n5' := Ne.symm n5
  go_wp2
  have HF := (((((((HS.out.set8 2 (.int .i64 r)).set8 3 (.int .i64 n)).set8 4 (.string v)).set6 0 (.int .i64 r)).set6 1 (.int .i64 n)).set6 2 (.int .i64 r)).set6 3 (.int .i64 n)).set6 4 (.string v)
  refine bodyPost_ret (results_ct rfl _ _ (b3 + 1 + 1) 34 #[.int .i64 r, .int .i64 n, .int .i64 r, .int .i64 n, .string v] (0, 0) _ rfl HF.X6 Tryd.underlying34 rfl (by kernel_rfl)) rfl ?_
  exact ⟨rfl, HF.B⟩
/-- What Take answers. -/
theorem take_calls (a b c d : Int) (s : ByteArray) (r n : Int) (v : ByteArray) (w : World) :
    Calls Tryd.prog 36 #[.agg #[.int .i64 a, .int .i64 b, .int .i64 c, .int .i64 d, .string s], .agg #[.int .i64 r, .int .i64 n], .string v] w fun e w' => e = .returned (.tuple #[.agg #[.int .i64 (takeT a b c d s r n v).1, .int .i64 (takeT a b c d s r n v).2.1, .int .i64 (takeT a b c d s r n v).2.2.1, .int .i64 (takeT a b c d s r n v).2.2.2.1, .string (takeT a b c d s r n v).2.2.2.2.1], .bool (takeT a b c d s r n v).2.2.2.2.2]) ∧ Below w.heap.size w w' := by
  have hP := prep_is a b c d s r n
  unfold prepT at hP
  unfold takeT
  by_cases c1 : AccP a b c d s ∧ RightP r n ∧ ¬ LessP r n a b
  case neg =>
    rw [if_neg c1] at hP
    rw [if_neg (fun h => c1 ⟨h.1, h.2.1, h.2.2.1⟩)]
    exact take_c1 a b c d s r n v w ⟨hP⟩
  rw [if_pos c1] at hP
  by_cases c2 : (v.size : Int) ≤ 100000
  case neg =>
    rw [if_neg (fun h => c2 h.2.2.2.1)]
    exact take_c2 a b c d s r n v w ⟨hP⟩ (decide_eq_true (by omega)) (decide_eq_true (by omega)) (decide_eq_true (by omega))
  have d1 : decide ((v.size : Int) > 100000) = false := decide_eq_false (by omega)
  have d2 : decide (100000 < (v.size : Int)) = false := decide_eq_false (by omega)
  have d3 : decide (100000 < v.size) = false := decide_eq_false (by omega)
  by_cases c3 : c = r ∧ d = n
  · have e3 : (c == r && (d == n)) = true := by simp [c3.1, c3.2]
    by_cases c4 : s.toList = v.toList
    · rw [if_pos ⟨c1.1, c1.2.1, c1.2.2, c2, fun _ => c4⟩]
      exact take_c4 a b c d s r n v w ⟨hP⟩ d1 d2 d3 e3 (beq_iff_eq.mpr c4) (bne_eq_false_iff_eq.mpr c4)
    · rw [if_neg (fun h => c4 (h.2.2.2.2 c3))]
      exact take_c3 a b c d s r n v w ⟨hP⟩ d1 d2 d3 e3 (beq_eq_false_iff_ne.mpr c4) (bne_iff_ne.mpr c4)
  · rw [if_pos ⟨c1.1, c1.2.1, c1.2.2, c2, fun h => absurd h c3⟩]
    refine take_c5 a b c d s r n v w ⟨hP⟩ d1 d2 d3 ?_
    by_cases e1 : c = r <;> by_cases e2 : d = n <;> simp_all

end Go.Proofs.YtnmcknfkmelnbaaDoor.P
