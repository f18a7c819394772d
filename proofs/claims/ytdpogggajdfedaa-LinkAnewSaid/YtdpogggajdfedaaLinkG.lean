import Derived.Test.YtdpogggajdfedaaLinkF
import Derived.Outline
import Derived.Laws.BitsAllLaws
import Derived.WalkSpells
import Derived.StillTailTactics
namespace Go.Proofs.Ytdpogggajdfedaa.P
open Go.RowKit Go.Proofs.YtdpogggajdfedaaW.PrintWords Go.Proofs.YtdpogggajdfedaaW.PrintLast Go.Proofs.YtdpogggajdfedaaW.PrintMore
attribute [local go_sem] max2_int min2_int max_two min_two max_three min_three max_four min_four
set_option linter.unusedVariables false
set_option linter.unusedSimpArgs false
def ouR.T2 : Bool × List (List Nat × List Nat) := (true, [([], []), ([0], [0]), ([1], [1]), ([2], [2]), ([], []), ([4], [4]), ([5], [5]), ([6], [6]), ([], []), ([8], [8]), ([9], [9]), ([10], [10]), ([3, 7, 11], [3, 7, 11]), ([], []), ([13, 12, 0, 1, 2, 3, 4, 5, 6, 7, 8, 9, 10, 11, 12, 13], [12, 13])])
def ouR.B2 : List Nat := [0, 1, 3, 7, 0, 16, 48, 112, 0, 256, 768, 1792, 4095, 0, 16383]
theorem ouR.tab2 : rtab .any (opsOf Try.f16 2) = ouR.T2 := by kernel_rfl
theorem ouR.bits2 : waitsOk ouR.T2.2 ouR.B2 = true := by kernel_rfl
def ouR.T11 : Bool × List (List Nat × List Nat) := (true, [([], []), ([0], [0]), ([1], [1]), ([2], [2]), ([3], [3]), ([], []), ([4, 5], [4, 5]), ([], []), ([7], [7]), ([8], [8]), ([9], [9]), ([0, 1, 2, 3, 4, 5, 6], []), ([11, 6, 0, 1, 2, 3, 4, 5, 6], [6, 11]), ([0, 1, 2, 3, 4, 5, 6, 7, 8, 9, 10, 11, 12], []), ([13, 10, 12, 0, 1, 2, 3, 4, 5, 6, 7, 8, 9, 10, 11, 12], [10, 13])])
def ouR.B11 : List Nat := [0, 1, 3, 7, 15, 0, 63, 0, 128, 384, 896, 127, 2175, 8191, 16383]
theorem ouR.tab11 : rtab .any (opsOf Try.f16 11) = ouR.T11 := by kernel_rfl
theorem ouR.bits11 : waitsOk ouR.T11.2 ouR.B11 = true := by kernel_rfl
theorem own_some {g n c j : Nat} (h : (Value.slice (some ⟨g, 0, none⟩) n c).ownBlock = some j) : g = j := by simpa [Value.ownBlock] using h
theorem C_oneF {w : World} {k : Nat} {x : FrT} (h : w.heap[k]? = some (.cells #[.int .i64 x.f0, .int .i64 x.f1, .int .i64 x.f2, .int .i64 x.f3, .string x.f4] 46 (0, 0))) : kF.C w (some ⟨k, 0, none⟩) 1 [x] := by
  refine ⟨rfl, by decide, fun _ => ⟨_, rfl, fun j p hj => ?_⟩⟩
  have hj0 : j = 0 := by
    have := (List.getElem?_eq_some_iff.1 hj).1
    simp at this
    exact this
  subst hj0
  have hp : x = p := by simpa using hj
  subst hp
  refine ⟨_, rfl, k46_mk w x, fun i u hu => ?_⟩
  rw [add_plain, blk_cell h, show 0 * kF.sz + i = i by omega]
  simpa using hu
/-- What join makes. -/
def JoinPost (b0 : Nat) (v : Value) (xs : List FrT) (x : FrT) (w : World) (e : Ending) (w' : World) : Prop := ∃ v', e = .returned v' ∧ kF.R 46 w' b0 (fun _ => True) v' (xs ++ [x]) ∧ w.grownBy w' v.ownBlock
theorem joinPost {b0 : Nat} {v v' : Value} {xs : List FrT} {x : FrT} {w w' : World} (h : kF.R 46 w' b0 (fun _ => True) v' (xs ++ [x])) (hg : w.grownBy w' v.ownBlock) : JoinPost b0 v xs x w (.returned v') w' := ⟨v', rfl, h, hg⟩
theorem join_calls (b0 : Nat) (v : Value) (xs : List FrT) (x : FrT) (k : Nat) (w : World) (hR : kF.R 46 w b0 (fun _ => True) v xs) (hX : w.heap[k]? = some (.cells #[.int .i64 x.f0, .int .i64 x.f1, .int .i64 x.f2, .int .i64 x.f3, .string x.f4] 46 (0, 0))) (hb : b0 ≤ w.heap.size) (hl : xs.length ≤ 1000) :
    Calls Try.prog 28 #[v, .slice (some ⟨k, 0, none⟩) 1 1] w (JoinPost b0 v xs x w) := by
  have HR := Aside0.mk hR
  have HX := Aside0.mk (C_oneF hX)
  clear hR hX
  go_enter Try.func28, Try.ntmps28
  go_wp2_with ((with_reducible refine gate_builtin (b := .append) (xs := #[.tmp 5, .tmp 6]) rfl ?_); at_builtin; refine Kd.R_append_rows kF (Rr := kF.K w) (w0 := w) b0 rfl (.tmp 5) (.tmp 6) 30 46 (.agg #[.int .i64 0, .int .i64 0, .int .i64 0, .int .i64 0, .string ⟨#[]⟩]) 48 rfl Try.underlying30 infoF rfl (by decide) (by omega) v xs [x] (some ⟨k, 0, none⟩) 1 1 (fun _ => True) (fun _ => False) rfl rfl ?aO ?aR (fun _ _ h => kF_KM h) (fun _ h => h.elim) ?aF ?aB ?aS ?aL ?_)
  case aR => exact HX.out
  case aB => exact Below.refl _ _
  try (case aF => exact (fun _ _ => trivial))
  case aO => exact HR.out
  case aS => exact hb
  case aL => omega
  intro v1 w1 ho hb2 hg hat
  have HO := Aside0.mk ho
  have HG := Aside0.mk hg
  clear ho hb2 hg hat
  go_wp2
  go_ret
  exact joinPost HO.out HG.out
/-- What Out has done of its row, and told, behind k rounds. -/
def LkS.outW (l : LkS) (k : Nat) : List BdT := (l.wait.take k).map put1 ++ l.wait.drop k
def LkS.outF (l : LkS) (k : Nat) : List FrT := frs l.epoch l.peer l.acked l.taken 0 (l.wait.take k)
theorem LkS.outW_at (l : LkS) (k : Nat) (h : k < l.wait.length) : ∃ h2 : k < (l.outW k).length, (l.outW k)[k] = l.wait[k] := part_get put1 l.wait k h
theorem LkS.outW_set (l : LkS) (k : Nat) (h : k < l.wait.length) : (l.outW k).set k (put1 l.wait[k]) = l.outW (k + 1) := part_set put1 l.wait k h
theorem LkS.outW_same (l : LkS) (k : Nat) (h : k < l.wait.length) (h2 : l.wait[k].f2 = false) : l.outW k = l.outW (k + 1) := by
  have := l.outW_set k h
  have e : put1 l.wait[k] = l.wait[k] := by unfold put1; rw [if_neg (by rw [h2]; simp)]
  rw [e] at this
  rw [← this]
  obtain ⟨h3, e3⟩ := l.outW_at k h
  rw [← e3, List.set_getElem_self]
theorem LkS.outF_succ (l : LkS) (k : Nat) (h : k < l.wait.length) : l.outF (k + 1) = l.outF k ++ if l.wait[k].f2 = true then [⟨l.epoch, l.peer, l.acked + 1 + k, l.taken, l.wait[k].f0⟩] else [] := by
  unfold LkS.outF
  rw [List.take_succ_eq_append_getElem h, frs_snoc, show 0 + (l.wait.take k).length = k by rw [List.length_take]; omega]
theorem LkS.outF_len (l : LkS) (k : Nat) : (l.outF k).length ≤ k := by
  unfold LkS.outF
  exact Nat.le_trans (frs_len _ _ _ _ _ _) (by rw [List.length_take]; omega)
/-- What Out leaves and tells. -/
def OutPost (w : World) (b g : Nat) (V : Value) (T : LkS × List FrT) (e : Ending) (w' : World) : Prop :=
  ∃ v, e = .returned v ∧ kF.R 46 w' w.heap.size (fun _ => True) v T.2 ∧ LkIs w' b g T.1 V ∧ LkOnly w w' g V V
theorem outPost {w w' : World} {b g : Nat} {V v : Value} {T : LkS × List FrT} {l : LkS} {fs : List FrT} (hT : T = (l, fs)) (hR : kF.R 46 w' w.heap.size (fun _ => True) v fs) (h : LkIs w' b g l V) (ho : LkOnly w w' g V V) : OutPost w b g V T (.returned v) w' := by
  subst hT
  exact ⟨v, rfl, hR, h, ho⟩
/-- What changes only blocks from n on leaves an end that lies below as it is. -/
theorem LkIs.far {w W W' : World} {b g : Nat} {l l0 : LkS} {V : Value} (h0 : LkIs w b g l0 V) (h : LkIs W b g l V) (ho : Only W W' (fun i => w.heap.size ≤ i)) : LkIs W' b g l V :=
  h.away ho (by have := h0.lt; omega) (fun k hk => by have := Kd.R_lt h0.R k hk; omega)
theorem LkOnly.far {w W W' : World} {g : Nat} {V : Value} (h : LkOnly w W g V V) (ho : Only W W' (fun i => w.heap.size ≤ i)) : LkOnly w W' g V V :=
  ⟨h.1.then_ ho (fun i hi => .inr hi), .inl rfl⟩
theorem Only.ofGrown {W W' : World} {row : Option Nat} {n : Nat} (hg : W.grownBy W' row) (hr : ∀ k, row = some k → n ≤ k) : Only W W' (fun i => n ≤ i) :=
  ⟨hg.os, hg.tape, hg.output, hg.size, fun i hi hn => hg.block i hi (fun e => hn (hr i e.symm))⟩
set_option maxHeartbeats 16000000 in
set_option maxRecDepth 100000 in
theorem outs_zero (b g : Nat) (l : LkS) (V : Value) (T : LkS × List FrT) (w : World) (H : Aside0 (LkIs w b g l V)) (hl : Aside0 l.Ok) (HT : Aside0 (l.outs = T)) (HZ : l.peer = 0) :
    Calls Try.prog 16 #[.pointer (some ⟨g, 0, none⟩)] w (OutPost w b g V T) := by
  have HW := Aside0.mk hl.out.w
  obtain ⟨A, c, eV, hcc, _⟩ := Kd.R_reads H.out.R
  subst eV
  obtain ⟨n, hn⟩ : ∃ n, l.wait.length = n := ⟨_, rfl⟩
  rw [hn] at HW H hcc ⊢
  have HN := Aside0.mk hn
  clear hn
  obtain ⟨m, hm⟩ : ∃ m, min n 8 = m := ⟨_, rfl⟩
  have hm8 : m ≤ 8 := by omega
  have hmn : m ≤ n := by omega
  have HM := Aside0.mk hm
  have hn32 := HW.out
  have hif : (if (8 : Int) < (n : Int) then (8 : Int) else (n : Int)) = (m : Int) := by split <;> omega
  have hcut : ∀ W : World, (Instr.slice 61 (.slice A n c) none (some (.int .i64 (m : Int))) none).run Try.prog W = .ok (.slice A m c) W := by
    obtain ⟨i, hi, hii⟩ := Option.map_eq_some_iff.1 infoB
    exact cut_to (P := Try.prog) 61 65 .i64 Try.underlying61 hi A n c (m : Int) (by omega) (by omega) hcc
  have HIO : Aside0 (∀ W, LkIs W b g l (.slice A n c) → Calls Try.prog 27 #[.pointer (some ⟨g, 0, none⟩)] W fun e w' => e = .returned (.bool l.isOut) ∧ w' = W) := ⟨fun W h => out_calls b g l _ W h (by rw [HN.out]; exact HW.out)⟩
  clear hm
  go_enter Try.func16, Try.ntmps16
  go_wp2
  refine start_ (n := 15) (S := fun W => LkIs W b g l (.slice A n c)) (ds := [14]) (bz 15 0) (by kernel_rfl) rfl rfl H.out.drew (fun hHeld => ?_); refine with_tabW ouR.tab2 ouR.bits2 (fun HT_ HW_ => ?_)
  refine pu_ 0 (some 8) (bz 15 1) HT_.out ?_
  refine pu_ 1 (some 9) (bz 15 3) HT_.out ?_
  refine pu_ 2 (some 10) (bz 15 7) HT_.out ?_
  refine pu_ 4 (some 12) (bz 15 23) HT_.out ?_
  refine pu_ 5 (some 13) (bz 15 55) HT_.out ?_
  refine pu_ 6 (some 14) (bz 15 119) HT_.out ?_
  refine pu_ 8 (some 16) (bz 15 375) HT_.out ?_
  refine pu_ 9 (some 17) (bz 15 887) HT_.out ?_
  refine pu_ 10 (some 18) (bz 15 1911) HT_.out ?_
  refine take_ (i := 3) (N := (some 11)) (v := ?_) (a' := ?_) (bz 15 1919) rfl rfl (take_ofW HT_.out HW_.out (by kernel_rfl)) (fun _ _ _ h => h) (Or.inl ⟨by rfl, ?_⟩) hHeld ?_ ?_
  rotate_left
  · rintro w' s0
    obtain ⟨z0, z1, z2, z3, z4, z5, z6⟩ := s0.cells
    go_simp
    with_reducible rfl
  rotate_left
  · simp only [Act.put, sl1, sl2, sl3, i64_w, i32_w]
    rfl
  refine take_ (i := 7) (N := (some 15)) (v := ?_) (a' := ?_) (bz 15 2047) rfl rfl (take_ofW HT_.out HW_.out (by kernel_rfl)) (fun _ _ _ h => h) (Or.inl ⟨by rfl, ?_⟩) hHeld ?_ ?_
  rotate_left
  · rintro w' s0
    obtain ⟨z0, z1, z2, z3, z4, z5, z6⟩ := s0.cells
    go_simp
    with_reducible rfl
  rotate_left
  · simp only [Act.put, sl1, sl2, sl3, i64_w, i32_w]
    rfl
  refine take_ (i := 11) (N := (some 19)) (v := ?_) (a' := ?_) (bz 15 4095) rfl rfl (take_ofW HT_.out HW_.out (by kernel_rfl)) (fun _ _ _ h => h) (Or.inl ⟨by rfl, ?_⟩) hHeld ?_ ?_
  rotate_left
  · rintro w' s0
    obtain ⟨z0, z1, z2, z3, z4, z5, z6⟩ := s0.cells
    go_simp
    with_reducible rfl
  rotate_left
  · simp only [Act.put, sl1, sl2, sl3, i64_w, i32_w]
    rfl
  refine pu_ 12 (some 20) (bz 15 8191) HT_.out ?_
  refine one_ (i := 13) (N := (some 4)) (bz 15 16383) rfl rfl (one_of HT_.out (by kernel_rfl)) (by decide) (fun K hK => ?_)
  refine value_ (w1 := ?_) (v := ?_) (by rfl) rfl ?_ ?_
  rotate_left 2
  · go_simp
    constructor
    · rfl
    · rfl
  have HSA := Aside0.mk hHeld
  refine hK.out _ _ (hHeld.alloc _) (fun hHeld => ?_)
  clear hK K
  refine norm_ (a' := ?_) ?_ ?_
  rotate_left
  · show Act.put _ (some 4) _ = _
    simp only [Act.put, sl1, sl2, sl3, i64_w, i32_w]
    rfl
  refine last_ (i := 14) (N := none) (bz 15 32767) rfl rfl (one_of HT_.out (by kernel_rfl)) (by decide) (fun K hK => ?_)
  refine skip_ (w1 := ?_) (by rfl) rfl ?_ ?_
  rotate_left
  · go_simp
    rfl
  refine hK.out _ _ ?_
  clear hK K
  refine done_ (done_of HT_.out (by kernel_rfl)) ?_
  have HE3 := Aside0.mk (blk_drew (heap_alloc_new w (.cells #[.int .i64 l.epoch, .int .i64 l.peer, .int .i64 0, .int .i64 l.taken, .string ⟨#[]⟩] 46)))
  have HL3 := Aside0.mk ((H.out.alloc (.cells #[.int .i64 l.epoch, .int .i64 l.peer, .int .i64 0, .int .i64 l.taken, .string ⟨#[]⟩] 46)).drew)
  have HO3 : Aside0 (LkOnly w (w.alloc (.cells #[.int .i64 l.epoch, .int .i64 l.peer, .int .i64 0, .int .i64 l.taken, .string ⟨#[]⟩] 46)).drew g (.slice A n c) (.slice A n c)) := ⟨LkOnly.of_below (below_drew (below_alloc (Below.refl _ _) _))⟩
  have hsz3 : w.heap.size + 1 ≤ (w.alloc (.cells #[.int .i64 l.epoch, .int .i64 l.peer, .int .i64 0, .int .i64 l.taken, .string ⟨#[]⟩] 46)).drew.heap.size := by simp
  clear hHeld HSA HT_ HW_
  rw [HZ] at HE3 HL3 HO3 hsz3
  generalize (w.alloc (.cells #[.int .i64 l.epoch, .int .i64 0, .int .i64 0, .int .i64 l.taken, .string ⟨#[]⟩] 46)).drew = W3 at HE3 HL3 HO3 hsz3 ⊢
  obtain ⟨h0, h1, h2, h3, h4, h5, h6⟩ := HL3.out.cells
  rw [HZ] at h1
  have HZZ := Aside0.mk HZ
  clear HZ
  go_wp2
  go_quiet (fail)
  have HL4 := Aside0.mk (HL3.out.drewN nq)
  have HE4 := Aside0.mk (blk_drewN HE3.out nq)
  have HO4 := Aside0.mk (HO3.out.below (pw_below_drewN (Below.refl _ _) nq))
  have hsz4 : w.heap.size + 1 ≤ (W3.drewN nq).heap.size := hsz3
  generalize W3.drewN nq = W4 at HL4 HE4 HO4 hsz4 ⊢
  clear h0 h1 h2 h3 h4 h5 h6 HL3 HE3 HO3 hsz3
  clear hif hcut HIO
  go_wp2
  have hmI : (m : Int) ≤ 9223372036854775807 := by omega
  go_loopg [3, 46] (m + 1) (fun kq v3 v46 W => ∃ (k : Nat), k ≤ m ∧ v46 = .int .i64 (k : Int) ∧ m - k < kq ∧ v3 = .slice none 0 0 ∧ Aside0 (LkIs W b g l (.slice A n c)) ∧ Aside0 (W.heap[w.heap.size]? = some (.cells #[.int .i64 l.epoch, .int .i64 0, .int .i64 0, .int .i64 l.taken, .string ⟨#[]⟩] 46 (0, 0))) ∧ Aside0 (LkOnly w W g (.slice A n c) (.slice A n c)) ∧ w.heap.size + 1 ≤ W.heap.size)
  case atStart => exact ⟨0, by omega, rfl, by omega, rfl, HL4, HE4, HO4, hsz4⟩
  case round =>
    obtain ⟨k, hk, rfl, hq, rfl, HL, HE, HO, hsz⟩ := hrel
    clear HL4 HE4 HO4 hsz4
    have hL := HL.out
    obtain ⟨h0, h1, h2, h3, h4, h5, h6⟩ := HL.out.cells
    rw [HZZ.out] at h1
    by_cases hlt : k < m
    · obtain ⟨gr, cap, e, _, _, _⟩ := Kd.R_form HL.out.R (by rw [HN.out]; omega)
      injection e with e1 e2 e3
      subst e1
      subst e3
      have i0 : (0 : Int) ≤ (k : Int) := by omega
      have i1 : (k : Int) < (n : Int) := by omega
      clear hL
      go_wp2
      go_roundg (m - k)
      case rel => exact ⟨k + 1, by omega, by go_num, by omega, rfl, HL, HE, HO, hsz⟩
      case measure => omega
    · obtain rfl : k = m := by omega
      have d4 : decide ((k : Int) < (k : Int)) = false := decide_eq_false (by omega)
      clear hL
      have HR : Aside0 (kF.R 46 wr (w.heap.size + 1) (fun _ => True) (.slice none 0 0) []) := ⟨Kd.R_nil _ _ _ _ _⟩
      obtain ⟨oo, hoo⟩ : ∃ oo, l.owes = oo := ⟨_, rfl⟩
      have HOO := Aside0.mk hoo
      rw [hoo] at h5
      clear hoo
      have hoz : l.outs = ({ l with owes := false }, if l.owes = true then [⟨l.epoch, 0, 0, l.taken, ⟨#[]⟩⟩] else []) := by
        unfold LkS.outs LkS.due
        rw [HZZ.out]
        simp
      cases oo
      · have HTE : Aside0 (T = ({ l with owes := false }, [])) := ⟨by rw [← HT.out, hoz, HOO.out]; rfl⟩
        clear hoz
        have hf5 := HL.out.frozen 5
        have HLf := Aside0.mk (HL.out.set1 5 (.bool false) { l with owes := false } rfl rfl)
        have HRf := Aside0.mk (R_only rfl (Kd.R_lower HR.out (show w.heap.size ≤ w.heap.size + 1 by omega)) ((Only.refl wr _).set_ (g := g) 5 (.bool false)) (fun k hk e => by have := Kd.R_base HR.out k hk; have := H.out.lt; omega))
        go_wp2
        go_ret
        exact outPost HTE.out HRf.out HLf.out (HO.out.set_ 5 (.bool false))
      · have HTE : Aside0 (T = ({ l with owes := false }, [] ++ [(⟨l.epoch, 0, 0, l.taken, ⟨#[]⟩⟩ : FrT)])) := ⟨by rw [← HT.out, hoz, HOO.out]; rfl⟩
        clear hoz
        have HLj := Aside0.mk (HL.out.alloc (.cells #[.int .i64 l.epoch, .int .i64 0, .int .i64 0, .int .i64 l.taken, .string ⟨#[]⟩] 46))
        have HXj := Aside0.mk (heap_alloc_new wr (.cells #[.int .i64 l.epoch, .int .i64 0, .int .i64 0, .int .i64 l.taken, .string ⟨#[]⟩] 46))
        have HRj := Aside0.mk (Kd.R_alloc HR.out (.cells #[.int .i64 l.epoch, .int .i64 0, .int .i64 0, .int .i64 l.taken, .string ⟨#[]⟩] 46))
        have HOj := Aside0.mk (HO.out.below (below_alloc (Below.refl _ _) (.cells #[.int .i64 l.epoch, .int .i64 0, .int .i64 0, .int .i64 l.taken, .string ⟨#[]⟩] 46)))
        obtain ⟨e0, e1, e2, e3, e4, _, _, _, _, _⟩ := bx5 HE.out
        go_wp2_with (go_at_call 28; refine (join_calls (w.heap.size + 1) (.slice none 0 0) ([]) (⟨l.epoch, 0, 0, l.taken, ⟨#[]⟩⟩ : FrT) wr.heap.size _ HRj.out HXj.out (by simp; omega) (by simp)).mono ?_)
        intro e W9 hj9
        obtain ⟨v9, rfl, hR9, hg9⟩ := hj9
        have ho9 : Only _ W9 (fun i => w.heap.size ≤ i) := Only.ofGrown hg9 (fun k hk => by have := Kd.R_base HRj.out k hk; omega)
        have HL9 := Aside0.mk (H.out.far HLj.out ho9)
        have HO9 := Aside0.mk (HOj.out.far ho9)
        obtain ⟨A9, c9, e9⟩ := Kd.R_slice hR9
        subst e9
        have HR9 := Aside0.mk hR9
        clear hR9 hg9 ho9 h0 h1 h2 h3 h4 h5 h6 e0 e1 e2 e3 e4
        obtain ⟨h0, h1, h2, h3, h4, h5, h6⟩ := HL9.out.cells
        have hf5 := HL9.out.frozen 5
        have HLf := Aside0.mk (HL9.out.set1 5 (.bool false) { l with owes := false } rfl rfl)
        have HRf := Aside0.mk (R_only rfl (Kd.R_lower HR9.out (show w.heap.size ≤ w.heap.size + 1 by omega)) ((Only.refl W9 _).set_ (g := g) 5 (.bool false)) (fun k hk e => by have := Kd.R_base HR9.out k hk; have := H.out.lt; omega))
        go_wp2
        go_ret
        exact outPost HTE.out HRf.out HLf.out (HO9.out.set_ 5 (.bool false))
theorem LkS.outW_min (l : LkS) : l.outW (min l.wait.length 8) = (l.wait.take 8).map put1 ++ l.wait.drop 8 := by
  unfold LkS.outW
  by_cases h : l.wait.length ≤ 8
  · rw [Nat.min_eq_left h, List.take_of_length_le (Nat.le_refl _), List.take_of_length_le h, List.drop_of_length_le (Nat.le_refl _), List.drop_of_length_le h]
  · rw [Nat.min_eq_right (by omega)]
theorem LkS.outF_min (l : LkS) : l.outF (min l.wait.length 8) = frs l.epoch l.peer l.acked l.taken 0 (l.wait.take 8) := by
  unfold LkS.outF
  by_cases h : l.wait.length ≤ 8
  · rw [Nat.min_eq_left h, List.take_of_length_le (Nat.le_refl _), List.take_of_length_le h]
  · rw [Nat.min_eq_right (by omega)]
def LkS.outL (l : LkS) (tk : Int) (k : Nat) : LkS := { l with wait := l.outW k, ticks := tk }
theorem LkS.outs_is (l : LkS) (hz : l.peer ≠ 0) (tk : Int) (ht : tk = if l.isOut = false then 0 else l.ticks) : l.outs = ({ l.outL tk (min l.wait.length 8) with owes := false }, if l.outF (min l.wait.length 8) = [] ∧ l.owes = true then [⟨l.epoch, l.peer, 0, l.taken, ⟨#[]⟩⟩] else l.outF (min l.wait.length 8)) := by
  unfold LkS.outs LkS.due LkS.outL
  rw [LkS.outW_min, LkS.outF_min, if_neg hz, if_neg hz, ht]
  congr 1
  simp [hz]
set_option maxHeartbeats 16000000 in
set_option maxRecDepth 100000 in
theorem outs_some (b g : Nat) (l : LkS) (V : Value) (T : LkS × List FrT) (w : World) (H : Aside0 (LkIs w b g l V)) (hl : Aside0 l.Ok) (HT : Aside0 (l.outs = T)) (HZ : l.peer ≠ 0) :
    Calls Try.prog 16 #[.pointer (some ⟨g, 0, none⟩)] w (OutPost w b g V T) := by
  have HW := Aside0.mk hl.out.w
  obtain ⟨A, c, eV, hcc, _⟩ := Kd.R_reads H.out.R
  subst eV
  obtain ⟨n, hn⟩ : ∃ n, l.wait.length = n := ⟨_, rfl⟩
  rw [hn] at HW H hcc ⊢
  have HN := Aside0.mk hn
  clear hn
  obtain ⟨m, hm⟩ : ∃ m, min n 8 = m := ⟨_, rfl⟩
  have hm8 : m ≤ 8 := by omega
  have hmn : m ≤ n := by omega
  have HM := Aside0.mk hm
  have hn32 := HW.out
  have hif : (if (8 : Int) < (n : Int) then (8 : Int) else (n : Int)) = (m : Int) := by split <;> omega
  have hcut : ∀ W : World, (Instr.slice 61 (.slice A n c) none (some (.int .i64 (m : Int))) none).run Try.prog W = .ok (.slice A m c) W := by
    obtain ⟨i, hi, hii⟩ := Option.map_eq_some_iff.1 infoB
    exact cut_to (P := Try.prog) 61 65 .i64 Try.underlying61 hi A n c (m : Int) (by omega) (by omega) hcc
  have HIO : Aside0 (∀ W, LkIs W b g l (.slice A n c) → Calls Try.prog 27 #[.pointer (some ⟨g, 0, none⟩)] W fun e w' => e = .returned (.bool l.isOut) ∧ w' = W) := ⟨fun W h => out_calls b g l _ W h (by rw [HN.out]; exact HW.out)⟩
  clear hm
  go_enter Try.func16, Try.ntmps16
  go_wp2
  refine start_ (n := 15) (S := fun W => LkIs W b g l (.slice A n c)) (ds := [14]) (bz 15 0) (by kernel_rfl) rfl rfl H.out.drew (fun hHeld => ?_); refine with_tabW ouR.tab2 ouR.bits2 (fun HT_ HW_ => ?_)
  refine pu_ 0 (some 8) (bz 15 1) HT_.out ?_
  refine pu_ 1 (some 9) (bz 15 3) HT_.out ?_
  refine pu_ 2 (some 10) (bz 15 7) HT_.out ?_
  refine pu_ 4 (some 12) (bz 15 23) HT_.out ?_
  refine pu_ 5 (some 13) (bz 15 55) HT_.out ?_
  refine pu_ 6 (some 14) (bz 15 119) HT_.out ?_
  refine pu_ 8 (some 16) (bz 15 375) HT_.out ?_
  refine pu_ 9 (some 17) (bz 15 887) HT_.out ?_
  refine pu_ 10 (some 18) (bz 15 1911) HT_.out ?_
  refine take_ (i := 3) (N := (some 11)) (v := ?_) (a' := ?_) (bz 15 1919) rfl rfl (take_ofW HT_.out HW_.out (by kernel_rfl)) (fun _ _ _ h => h) (Or.inl ⟨by rfl, ?_⟩) hHeld ?_ ?_
  rotate_left
  · rintro w' s0
    obtain ⟨z0, z1, z2, z3, z4, z5, z6⟩ := s0.cells
    go_simp
    with_reducible rfl
  rotate_left
  · simp only [Act.put, sl1, sl2, sl3, i64_w, i32_w]
    rfl
  refine take_ (i := 7) (N := (some 15)) (v := ?_) (a' := ?_) (bz 15 2047) rfl rfl (take_ofW HT_.out HW_.out (by kernel_rfl)) (fun _ _ _ h => h) (Or.inl ⟨by rfl, ?_⟩) hHeld ?_ ?_
  rotate_left
  · rintro w' s0
    obtain ⟨z0, z1, z2, z3, z4, z5, z6⟩ := s0.cells
    go_simp
    with_reducible rfl
  rotate_left
  · simp only [Act.put, sl1, sl2, sl3, i64_w, i32_w]
    rfl
  refine take_ (i := 11) (N := (some 19)) (v := ?_) (a' := ?_) (bz 15 4095) rfl rfl (take_ofW HT_.out HW_.out (by kernel_rfl)) (fun _ _ _ h => h) (Or.inl ⟨by rfl, ?_⟩) hHeld ?_ ?_
  rotate_left
  · rintro w' s0
    obtain ⟨z0, z1, z2, z3, z4, z5, z6⟩ := s0.cells
    go_simp
    with_reducible rfl
  rotate_left
  · simp only [Act.put, sl1, sl2, sl3, i64_w, i32_w]
    rfl
  refine pu_ 12 (some 20) (bz 15 8191) HT_.out ?_
  refine one_ (i := 13) (N := (some 4)) (bz 15 16383) rfl rfl (one_of HT_.out (by kernel_rfl)) (by decide) (fun K hK => ?_)
  refine value_ (w1 := ?_) (v := ?_) (by rfl) rfl ?_ ?_
  rotate_left 2
  · go_simp
    constructor
    · rfl
    · rfl
  have HSA := Aside0.mk hHeld
  refine hK.out _ _ (hHeld.alloc _) (fun hHeld => ?_)
  clear hK K
  refine norm_ (a' := ?_) ?_ ?_
  rotate_left
  · show Act.put _ (some 4) _ = _
    simp only [Act.put, sl1, sl2, sl3, i64_w, i32_w]
    rfl
  refine last_ (i := 14) (N := none) (bz 15 32767) rfl rfl (one_of HT_.out (by kernel_rfl)) (by decide) (fun K hK => ?_)
  refine skip_ (w1 := ?_) (by rfl) rfl ?_ ?_
  rotate_left
  · go_simp
    rfl
  refine hK.out _ _ ?_
  clear hK K
  refine done_ (done_of HT_.out (by kernel_rfl)) ?_
  have HE3 := Aside0.mk (blk_drew (heap_alloc_new w (.cells #[.int .i64 l.epoch, .int .i64 l.peer, .int .i64 0, .int .i64 l.taken, .string ⟨#[]⟩] 46)))
  have HL3 := Aside0.mk ((H.out.alloc (.cells #[.int .i64 l.epoch, .int .i64 l.peer, .int .i64 0, .int .i64 l.taken, .string ⟨#[]⟩] 46)).drew)
  have HO3 : Aside0 (LkOnly w (w.alloc (.cells #[.int .i64 l.epoch, .int .i64 l.peer, .int .i64 0, .int .i64 l.taken, .string ⟨#[]⟩] 46)).drew g (.slice A n c) (.slice A n c)) := ⟨LkOnly.of_below (below_drew (below_alloc (Below.refl _ _) _))⟩
  have hsz3 : w.heap.size + 1 ≤ (w.alloc (.cells #[.int .i64 l.epoch, .int .i64 l.peer, .int .i64 0, .int .i64 l.taken, .string ⟨#[]⟩] 46)).drew.heap.size := by simp
  clear hHeld HSA HT_ HW_
  generalize (w.alloc (.cells #[.int .i64 l.epoch, .int .i64 l.peer, .int .i64 0, .int .i64 l.taken, .string ⟨#[]⟩] 46)).drew = W3 at HE3 HL3 HO3 hsz3 ⊢
  obtain ⟨h0, h1, h2, h3, h4, h5, h6⟩ := HL3.out.cells
  have hp1 : (l.peer != 0) = true := bne_iff_ne.mpr HZ
  have HZZ := Aside0.mk HZ
  clear HZ
  have ha0 := hl.out.a0
  have ha1 := hl.out.a1
  obtain ⟨a, haa⟩ : ∃ a, l.acked = a := ⟨_, rfl⟩
  have HA := Aside0.mk haa
  rw [haa] at h3 ha0 ha1
  clear haa
  go_wp2_with (go_at_call 27; refine (HIO.out _ HL3.out).mono ?_)
  rintro e W3 ⟨rfl, rfl⟩
  obtain ⟨tk, htk⟩ : ∃ tk : Int, tk = if l.isOut = false then 0 else l.ticks := ⟨_, rfl⟩
  have HTK := Aside0.mk htk
  have HTE : Aside0 (T = ({ l.outL tk m with owes := false }, if l.outF m = [] ∧ l.owes = true then [⟨l.epoch, l.peer, 0, l.taken, ⟨#[]⟩⟩] else l.outF m)) := ⟨by rw [← HT.out, l.outs_is HZZ.out tk htk, HN.out, HM.out]⟩
  have HC0 : Aside0 (LkIs W3 b g { l with ticks := l.ticks } (.slice A n c)) := ⟨HL3.out⟩
  have hf6 := HL3.out.frozen 6
  have HL0 : Aside0 (∀ W, LkIs W b g { l with ticks := tk } (.slice A n c) → LkIs W b g (l.outL tk 0) (.slice A n c)) := ⟨fun W h => by
    have e : l.outL tk 0 = { l with ticks := tk } := by unfold LkS.outL LkS.outW; rw [List.take_zero, List.drop_zero]; rfl
    rw [e]; exact h⟩
  cases hio : l.isOut
  all_goals
    rw [hio] at HTK
    clear hio htk
  case' false =>
    have HL4 : Aside0 (LkIs (W3.setCell ⟨g, 6, none⟩ (.int .i64 0)) b g (l.outL tk 0) (.slice A n c)) := ⟨HL0.out _ (HL3.out.set1 6 (.int .i64 0) { l with ticks := tk } (by rw [HTK.out]; rfl) rfl)⟩
    have HE4 := Aside0.mk (blk_far (p := ⟨g, 6, none⟩) HE3.out (by have := H.out.lt; show w.heap.size ≠ g; omega) (.int .i64 0))
    have HO4 := Aside0.mk (HO3.out.set_ 6 (.int .i64 0))
    have hsz4 : w.heap.size + 1 ≤ (W3.setCell ⟨g, 6, none⟩ (.int .i64 0)).heap.size := by rw [World.size_setCell]; exact hsz3
    go_wp2
    generalize W3.setCell ⟨g, 6, none⟩ (.int .i64 0) = W4 at HL4 HE4 HO4 hsz4 ⊢
  case' true =>
    have HL4 : Aside0 (LkIs W3 b g (l.outL tk 0) (.slice A n c)) := ⟨HL0.out _ (by rw [HTK.out]; exact HL3.out)⟩
    have HE4 := HE3
    have HO4 := HO3
    have hsz4 := hsz3
    go_wp2
  case' true =>
    clear h0 h1 h2 h3 h4 h5 h6 hf6 HL3 HE3 HO3 hsz3 HC0 HL0 HTK
    generalize W3 = W4 at HL4 HE4 HO4 hsz4 ⊢
  case' false => clear h0 h1 h2 h3 h4 h5 h6 hf6 HL3 HE3 HO3 hsz3 HC0 HL0 HTK
  all_goals
    obtain ⟨h0, h1, h2, h3, h4, h5, h6⟩ := HL4.out.cells
    go_quiet (fail)
    have HL6 := Aside0.mk (HL4.out.drewN nq)
    have HE6 := Aside0.mk (blk_drewN HE4.out nq)
    have HO6 := Aside0.mk (HO4.out.below (pw_below_drewN (Below.refl _ _) nq))
    have hsz6 : w.heap.size + 1 ≤ (W4.drewN nq).heap.size := hsz4
    generalize W4.drewN nq = W6 at HL6 HE6 HO6 hsz6 ⊢
    clear h0 h1 h2 h3 h4 h5 h6 HL4 HE4 HO4 hsz4 hif hcut HIO
    go_wp2
    go_loopg [3, 46] (m + 1) (fun kq v3 v46 W => ∃ (k : Nat), k ≤ m ∧ v46 = .int .i64 (k : Int) ∧ m - k < kq ∧ Aside0 (LkIs W b g (l.outL tk k) (.slice A n c)) ∧ Aside0 (W.heap[w.heap.size]? = some (.cells #[.int .i64 l.epoch, .int .i64 l.peer, .int .i64 0, .int .i64 l.taken, .string ⟨#[]⟩] 46 (0, 0))) ∧ Aside0 (LkOnly w W g (.slice A n c) (.slice A n c)) ∧ w.heap.size + 1 ≤ W.heap.size ∧ Aside0 (kF.R 46 W (w.heap.size + 1) (fun _ => True) v3 (l.outF k)))
    case atStart => exact ⟨0, by omega, rfl, by omega, HL6, HE6, HO6, hsz6, ⟨Kd.R_nil _ _ _ _ _⟩⟩
    case round =>
      obtain ⟨k, hk, rfl, hq, HL, HE, HO, hsz, HR⟩ := hrel
      clear HL6 HE6 HO6 hsz6
      by_cases hlt : k < m
      · have hkl : k < l.wait.length := by rw [HN.out]; omega
        obtain ⟨hl2, hat⟩ := l.outW_at k hkl
        have HN2 : (l.outL tk k).wait.length = n := by show (l.outW k).length = n; unfold LkS.outW; rw [part_len, HN.out]
        obtain ⟨gr, cap, e, hgb, hgl, _⟩ := Kd.R_form HL.out.R (by rw [HN2]; omega)
        injection e with e1 e2 e3
        subst e1
        subst e3
        clear e2
        have hgr0 : gr < w.heap.size := Kd.R_lt H.out.R gr (by simp [Value.ownBlock])
        have hg0 : g < w.heap.size := H.out.lt
        obtain ⟨s, hs⟩ : ∃ s, l.wait[k].f0 = s := ⟨_, rfl⟩
        obtain ⟨y, hy⟩ : ∃ y, l.wait[k].f2 = y := ⟨_, rfl⟩
        have HAT : Aside0 (∀ h2 : k < (l.outL tk k).wait.length, ((l.outL tk k).wait[k]'h2).f0 = s) := ⟨fun h2 => by rw [← hs]; exact congrArg (·.f0) hat⟩
        have HY := Aside0.mk hy
        have HS := Aside0.mk hs
        have hq2 := (rowB_at HL.out.R k hl2).2.2
        rw [show ((l.outL tk k).wait[k]'hl2).f2 = y from (congrArg (·.f2) hat).trans hy] at hq2
        obtain ⟨h0, h1, h2, h3, h4, h5, h6⟩ := HL.out.cells
        have h1a : wr.cell? ⟨g, 1, none⟩ = some (.int .i64 l.peer) := h1
        have h2a : wr.cell? ⟨g, 2, none⟩ = some (.slice (some ⟨gr, 0, none⟩) n c) := h2
        have i0 : (0 : Int) ≤ (k : Int) := by omega
        have i1 : (k : Int) < (n : Int) := by omega
        have hk8 : (k : Int) ≤ 8 := by omega
        have hpp : (l.peer != 0) = true := bne_iff_ne.mpr HZZ.out
        have HL2_ := Aside0.mk hl2
        have HN2_ := Aside0.mk HN2
        have HKL := Aside0.mk hkl
        clear h1 h2 hat hs hy HN2 hl2
        cases y
        · have HLn : Aside0 (LkIs wr b g (l.outL tk (k + 1)) (.slice (some ⟨gr, 0, none⟩) n c)) := ⟨by
            have e : l.outL tk (k + 1) = l.outL tk k := by unfold LkS.outL; rw [← l.outW_same k HKL.out HY.out]
            rw [e]; exact HL.out⟩
          have HRn : Aside0 (kF.R 46 wr (w.heap.size + 1) (fun _ => True) u3 (l.outF (k + 1))) := ⟨by rw [l.outF_succ k HKL.out, if_neg (by rw [HY.out]; simp), List.append_nil]; exact HR.out⟩
          go_wp2
          go_roundg (m - k)
          case rel => exact ⟨k + 1, by omega, by go_num, by omega, HLn, HE, HO, hsz, HRn⟩
          case measure => omega
        · have HF4 := Aside0.mk (heap_alloc_new wr (.cells #[.int .i64 l.epoch, .int .i64 l.peer, .int .i64 0, .int .i64 l.taken, .string ⟨#[]⟩] 46))
          have HL5 := Aside0.mk (HL.out.alloc (.cells #[.int .i64 l.epoch, .int .i64 l.peer, .int .i64 0, .int .i64 l.taken, .string ⟨#[]⟩] 46))
          have HE5 := Aside0.mk (blk_alloc HE.out (.cells #[.int .i64 l.epoch, .int .i64 l.peer, .int .i64 0, .int .i64 l.taken, .string ⟨#[]⟩] 46))
          have HR5 := Aside0.mk (Kd.R_alloc HR.out (.cells #[.int .i64 l.epoch, .int .i64 l.peer, .int .i64 0, .int .i64 l.taken, .string ⟨#[]⟩] 46))
          have HO5 := Aside0.mk (HO.out.below (below_alloc (Below.refl _ _) (.cells #[.int .i64 l.epoch, .int .i64 l.peer, .int .i64 0, .int .i64 l.taken, .string ⟨#[]⟩] 46)))
          have hrl := Kd.R_lt HR.out
          obtain ⟨gf, hgf⟩ : ∃ gf, wr.heap.size = gf := ⟨_, rfl⟩
          have hfn : w.heap.size + 1 ≤ gf := by omega
          have HRL : Aside0 (∀ j, u3.ownBlock = some j → j ≠ gf) := ⟨fun j hj => by have := hrl j hj; omega⟩
          rw [hgf] at HF4
          have HGR : Aside0 (∀ j, (Value.slice (some ⟨gr, 0, none⟩) n c).ownBlock = some j → j ≠ gf) := ⟨fun j hj => by have := own_some hj; omega⟩
          obtain ⟨e0, e1, e2, e3, e4, _, _, _, _, _⟩ := bx5 HE.out
          clear hrl
          go_wp2
          try rw [hgf]
          clear hgf e0 e1 e2 e3 e4 h0 h1a h2a h3 h4 h5 h6 hq2
          generalize wr.alloc (.cells #[.int .i64 l.epoch, .int .i64 l.peer, .int .i64 0, .int .i64 l.taken, .string ⟨#[]⟩] 46) = W5 at HF4 HL5 HE5 HR5 HO5 ⊢
          have HF5 := HF4
          refine start_ (n := 15) (S := fun W => LkIs W b g (l.outL tk k) (.slice (some ⟨gr, 0, none⟩) n c) ∧ ∃ v2, W.heap[gf]? = some (.cells #[.int .i64 l.epoch, .int .i64 l.peer, .int .i64 v2, .int .i64 l.taken, .string ⟨#[]⟩] 46 (0, 0))) (ds := [14]) (bz 15 0) (by kernel_rfl) rfl rfl ⟨HL5.out.drew, _, blk_drew HF5.out⟩ (fun hHeld => ?_); refine with_tabW ouR.tab11 ouR.bits11 (fun HT_ HW_ => ?_)
          refine pu_ 0 (some 67) (bz 15 1) HT_.out ?_
          refine pu_ 1 (some 68) (bz 15 3) HT_.out ?_
          refine pu_ 2 (some 69) (bz 15 7) HT_.out ?_
          refine pu_ 5 (some 72) (bz 15 39) HT_.out ?_
          refine pu_ 7 (some 74) (bz 15 167) HT_.out ?_
          refine pu_ 8 (some 75) (bz 15 423) HT_.out ?_
          refine pu_ 9 (some 76) (bz 15 935) HT_.out ?_
          refine take_ (i := 3) (N := (some 70)) (v := ?_) (a' := ?_) (bz 15 943) rfl rfl (take_ofW HT_.out HW_.out (by kernel_rfl)) (fun _ _ _ h => h) (Or.inl ⟨by rfl, ?_⟩) hHeld ?_ ?_
          rotate_left
          · rintro w' ⟨s0, v2, s1⟩
            have z3a : w'.cell? ⟨g, 3, none⟩ = some (.int .i64 a) := by rw [← HA.out]; exact s0.cells.2.2.2.1
            go_simp
            with_reducible rfl
          rotate_left
          · simp only [Act.put, sl1, sl2, sl3, i64_w, i32_w]
            rfl
          refine pu_ 4 (some 71) (bz 15 959) HT_.out ?_
          refine pu_ 6 (some 73) (bz 15 1023) HT_.out ?_
          refine pu_ 11 (some 78) (bz 15 3071) HT_.out ?_
          refine take_ (i := 10) (N := (some 77)) (v := ?_) (a' := ?_) (bz 15 4095) rfl rfl (take_ofW HT_.out HW_.out (by kernel_rfl)) (fun _ _ _ h => h) (Or.inl ⟨by rfl, ?_⟩) hHeld ?_ ?_
          rotate_left
          · rintro w' ⟨s0, v2, s1⟩
            have q0 : w'.cell? ⟨gr, k * 3, none⟩ = some (.string s) := (rowB_at s0.R k HL2_.out).1.trans (congrArg (fun z => some (Value.string z)) (HAT.out _))
            go_simp
            with_reducible rfl
          rotate_left
          · simp only [Act.put, sl1, sl2, sl3, i64_w, i32_w]
            rfl
          refine one_ (i := 12) (N := none) (bz 15 8191) rfl rfl (one_of HT_.out (by kernel_rfl)) (by decide) (fun K hK => ?_)
          have HSA := Aside0.mk hHeld
          obtain ⟨y0, y1, y2, y3, y4, f0_, f1_, f2_, f3_, f4_⟩ := bx5 HF5.out
          refine skip_ (w1 := ?_) (by rfl) rfl ?_ ?_
          rotate_left
          · go_simp
            rfl
          refine hK.out _ _ ⟨HSA.out.1.away ((Only.refl W5.drew (· = gf)).set_ 2 _) (by omega) (fun j hj e => HGR.out j hj e), _, blk_put (blk_drew HF5.out) 2 _ rfl⟩ (fun hHeld => ?_)
          clear hK K
          refine pu_ 13 (some 79) (bz 15 16383) HT_.out ?_
          refine last_ (i := 14) (N := none) (bz 15 32767) rfl rfl (one_of HT_.out (by kernel_rfl)) (by decide) (fun K hK => ?_)
          refine skip_ (w1 := ?_) (by rfl) rfl ?_ ?_
          rotate_left
          · go_simp
            rfl
          refine hK.out _ _ ?_
          clear hK K
          refine done_ (done_of HT_.out (by kernel_rfl)) ?_
          clear HT_ HW_ HSA hHeld
          obtain ⟨sq, hsq⟩ : ∃ sq, wrap64 (wrap64 (a + 1) + (k : Int)) = sq := ⟨_, rfl⟩
          have HSQ : Aside0 (sq = l.acked + 1 + (k : Int)) := ⟨by rw [← hsq, HA.out, show wrap64 (a + 1) = a + 1 by unfold wrap64; omega]; unfold wrap64; omega⟩
          rw [hsq]
          clear hsq
          have HL7 : Aside0 (LkIs ((W5.setCell ⟨gf, 2, none⟩ (.int .i64 sq)).setCell ⟨gf, 4, none⟩ (.string s)).drew b g (l.outL tk k) (.slice (some ⟨gr, 0, none⟩) n c)) := ⟨HL5.out.drew.away (((Only.refl W5.drew (· = gf)).set_ 2 _).set_ 4 _) (by omega) (fun j hj e => HGR.out j hj e)⟩
          have HO7 : Aside0 (LkOnly w ((W5.setCell ⟨gf, 2, none⟩ (.int .i64 sq)).setCell ⟨gf, 4, none⟩ (.string s)).drew g (.slice (some ⟨gr, 0, none⟩) n c) (.slice (some ⟨gr, 0, none⟩) n c)) := ⟨(HO5.out.below (below_drew (Below.refl _ _))).far ((((Only.refl W5.drew (· = gf)).set_ 2 _).set_ 4 _).mono (fun i _ hi => by omega))⟩
          have HF7 : Aside0 (((W5.setCell ⟨gf, 2, none⟩ (.int .i64 sq)).setCell ⟨gf, 4, none⟩ (.string s)).drew.heap[gf]? = some (.cells #[.int .i64 l.epoch, .int .i64 l.peer, .int .i64 sq, .int .i64 l.taken, .string s] 46 (0, 0))) := ⟨blk_put (blk_put (blk_drew HF5.out) 2 (.int .i64 sq) rfl) 4 (.string s) rfl⟩
          have HE7 : Aside0 (((W5.setCell ⟨gf, 2, none⟩ (.int .i64 sq)).setCell ⟨gf, 4, none⟩ (.string s)).drew.heap[w.heap.size]? = some (.cells #[.int .i64 l.epoch, .int .i64 l.peer, .int .i64 0, .int .i64 l.taken, .string ⟨#[]⟩] 46 (0, 0))) := Aside0.mk (blk_far (p := ⟨gf, 4, none⟩) (blk_far (p := ⟨gf, 2, none⟩) (blk_drew HE5.out) (by show w.heap.size ≠ gf; omega) (.int .i64 sq)) (by show w.heap.size ≠ gf; omega) (.string s))
          have HR7 : Aside0 (kF.R 46 ((W5.setCell ⟨gf, 2, none⟩ (.int .i64 sq)).setCell ⟨gf, 4, none⟩ (.string s)).drew (w.heap.size + 1) (fun _ => True) u3 (l.outF k)) := ⟨R_only rfl (Kd.R_drew HR5.out) (((Only.refl W5.drew (· = gf)).set_ 2 _).set_ 4 _) (fun j hj => HRL.out j hj)⟩
          have hsz7 : w.heap.size + 1 ≤ ((W5.setCell ⟨gf, 2, none⟩ (.int .i64 sq)).setCell ⟨gf, 4, none⟩ (.string s)).drew.heap.size := by have := blk_lt HF7.out; omega
          generalize ((W5.setCell ⟨gf, 2, none⟩ (.int .i64 sq)).setCell ⟨gf, 4, none⟩ (.string s)).drew = W7 at HL7 HO7 HF7 HE7 HR7 hsz7 ⊢
          clear HF4 HF5 HL5 HE5 HR5 HO5 HL HE HO HR hsz
          have HLj := Aside0.mk (HL7.out.alloc (.cells #[.int .i64 l.epoch, .int .i64 l.peer, .int .i64 sq, .int .i64 l.taken, .string s] 46))
          have HXj := Aside0.mk (heap_alloc_new W7 (.cells #[.int .i64 l.epoch, .int .i64 l.peer, .int .i64 sq, .int .i64 l.taken, .string s] 46))
          have HRj := Aside0.mk (Kd.R_alloc HR7.out (.cells #[.int .i64 l.epoch, .int .i64 l.peer, .int .i64 sq, .int .i64 l.taken, .string s] 46))
          have HOj := Aside0.mk (HO7.out.below (below_alloc (Below.refl _ _) (.cells #[.int .i64 l.epoch, .int .i64 l.peer, .int .i64 sq, .int .i64 l.taken, .string s] 46)))
          have HEj := Aside0.mk (blk_alloc HE7.out (.cells #[.int .i64 l.epoch, .int .i64 l.peer, .int .i64 sq, .int .i64 l.taken, .string s] 46))
          have hfl := l.outF_len k
          have HFL := Aside0.mk (show (l.outF k).length ≤ 1000 by omega)
          clear hfl
          obtain ⟨y0, y1, y2, y3, y4, _, _, _, _, _⟩ := bx5 HF7.out
          go_wp2_with (go_at_call 28; refine (join_calls (w.heap.size + 1) u3 (l.outF k) (⟨l.epoch, l.peer, sq, l.taken, s⟩ : FrT) W7.heap.size _ HRj.out HXj.out (by simp; omega) HFL.out).mono ?_)
          intro e W9 hj9
          obtain ⟨v9, rfl, hR9, hg9⟩ := hj9
          have ho9 : Only _ W9 (fun i => w.heap.size + 1 ≤ i) := Only.ofGrown hg9 (fun j hj => Kd.R_base HRj.out j hj)
          have ho9' := ho9.mono (S' := fun i => w.heap.size ≤ i) (fun i _ hi => by omega)
          have HL9 := Aside0.mk (H.out.far HLj.out ho9')
          have HO9 := Aside0.mk (HOj.out.far ho9')
          have HE9 := Aside0.mk (ho9.blk HEj.out (show ¬ w.heap.size + 1 ≤ w.heap.size by omega))
          have hsz9 : w.heap.size + 1 ≤ W9.heap.size := by have := ho9.size; simp at this; omega
          have HR9 := Aside0.mk hR9
          clear hR9 hg9 ho9 ho9' y0 y1 y2 y3 y4 HLj HXj HRj HOj HEj HL7 HO7 HF7 HE7 HR7 hsz7
          have hq2 := (rowB_at HL9.out.R k HL2_.out).2.2
          have hq1 := (rowB_at HL9.out.R k HL2_.out).2.1
          obtain ⟨y2, hy2⟩ : ∃ y2, ((l.outL tk k).wait[k]'HL2_.out).f2 = y2 := ⟨_, rfl⟩
          obtain ⟨y1, hy1⟩ : ∃ y1, ((l.outL tk k).wait[k]'HL2_.out).f1 = y1 := ⟨_, rfl⟩
          rw [hy2] at hq2
          rw [hy1] at hq1
          have hfz2 := row_frozen HL9.out.R (k * 3 + 2)
          have hfz1 := row_frozen HL9.out.R (k * 3 + 1)
          have HLn : Aside0 (LkIs ((W9.setCell ⟨gr, k * 3 + 2, none⟩ (.bool false)).setCell ⟨gr, k * 3 + 1, none⟩ (.bool true)) b g (l.outL tk (k + 1)) (.slice (some ⟨gr, 0, none⟩) n c)) := ⟨by
            have h1 := HL9.out.setR k 2 HL2_.out (by omega) (.bool false) ⟨((l.outL tk k).wait[k]'HL2_.out).f0, ((l.outL tk k).wait[k]'HL2_.out).f1, false⟩ rfl
            have hk2 : k < ((l.outL tk k).wait.set k ⟨((l.outL tk k).wait[k]'HL2_.out).f0, ((l.outL tk k).wait[k]'HL2_.out).f1, false⟩).length := by rw [List.length_set]; exact HL2_.out
            have h2 := h1.setR k 1 hk2 (by omega) (.bool true) ⟨((l.outL tk k).wait[k]'HL2_.out).f0, true, false⟩ (by simp [bdC])
            have e : ({ l.outL tk k with wait := (((l.outL tk k).wait.set k ⟨((l.outL tk k).wait[k]'HL2_.out).f0, ((l.outL tk k).wait[k]'HL2_.out).f1, false⟩).set k ⟨((l.outL tk k).wait[k]'HL2_.out).f0, true, false⟩) } : LkS) = l.outL tk (k + 1) := by
              unfold LkS.outL
              rw [List.set_set, ← l.outW_set k HKL.out]
              have e2 : LkS.put1 l.wait[k] = ⟨l.wait[k].f0, true, false⟩ := by unfold LkS.put1; rw [if_pos HY.out]
              have e3 : ((l.outL tk k).wait[k]'HL2_.out).f0 = l.wait[k].f0 := (HAT.out _).trans HS.out.symm
              rw [e2]
              show ({ l with wait := (l.outW k).set k ⟨((l.outL tk k).wait[k]'HL2_.out).f0, true, false⟩, ticks := tk } : LkS) = _
              rw [e3]
            rw [← e]
            exact h2⟩
          have hon : Only W9 ((W9.setCell ⟨gr, k * 3 + 2, none⟩ (.bool false)).setCell ⟨gr, k * 3 + 1, none⟩ (.bool true)) (· = gr) := ((Only.refl W9 (· = gr)).set_ _ _).set_ _ _
          have HOn : Aside0 (LkOnly w ((W9.setCell ⟨gr, k * 3 + 2, none⟩ (.bool false)).setCell ⟨gr, k * 3 + 1, none⟩ (.bool true)) g (.slice (some ⟨gr, 0, none⟩) n c) (.slice (some ⟨gr, 0, none⟩) n c)) := ⟨HO9.out.trans ⟨hon.mono (fun i _ hi => .inr (by rw [hi]; simp [Value.ownBlock])), .inl rfl⟩⟩
          have HEn := Aside0.mk (hon.blk HE9.out (show ¬ w.heap.size = gr by omega))
          have HRn : Aside0 (kF.R 46 ((W9.setCell ⟨gr, k * 3 + 2, none⟩ (.bool false)).setCell ⟨gr, k * 3 + 1, none⟩ (.bool true)) (w.heap.size + 1) (fun _ => True) v9 (l.outF (k + 1))) := ⟨by
            rw [l.outF_succ k HKL.out, if_pos HY.out, ← HSQ.out, HS.out]
            exact R_only rfl HR9.out hon (fun j hj e => by have := Kd.R_base HR9.out j hj; omega)⟩
          have hszn : w.heap.size + 1 ≤ ((W9.setCell ⟨gr, k * 3 + 2, none⟩ (.bool false)).setCell ⟨gr, k * 3 + 1, none⟩ (.bool true)).heap.size := by rw [World.size_setCell, World.size_setCell]; exact hsz9
          clear hon hy1 hy2
          go_wp2
          go_roundg (m - k)
          case rel => exact ⟨k + 1, by omega, by go_num, by omega, HLn, HEn, HOn, hszn, HRn⟩
          case measure => omega
      · obtain rfl : k = m := by omega
        have d4 : decide ((k : Int) < (k : Int)) = false := decide_eq_false (by omega)
        obtain ⟨h0, h1, h2, h3, h4, h5, h6⟩ := HL.out.cells
        obtain ⟨oo, hoo⟩ : ∃ oo, l.owes = oo := ⟨_, rfl⟩
        have HOO := Aside0.mk hoo
        have h5a : wr.cell? ⟨g, 5, none⟩ = some (.bool oo) := by rw [← hoo]; exact h5
        obtain ⟨A3, c3, e3⟩ := Kd.R_slice HR.out
        subst e3
        have HT2 := HTE
        clear HTE hoo h5
        by_cases hp : l.outF k = []
        · have HP := Aside0.mk hp
          rw [hp] at HR ⊢
          cases oo
          · have HTE : Aside0 (T = ({ l.outL tk k with owes := false }, [])) := ⟨by rw [HT2.out, HP.out, HOO.out]; rfl⟩
            clear hp
            have hf5 := HL.out.frozen 5
            have HLf := Aside0.mk (HL.out.set1 5 (.bool false) { l.outL tk k with owes := false } rfl rfl)
            have HRf := Aside0.mk (R_only rfl (Kd.R_lower HR.out (show w.heap.size ≤ w.heap.size + 1 by omega)) ((Only.refl wr _).set_ (g := g) 5 (.bool false)) (fun k hk e => by have := Kd.R_base HR.out k hk; have := H.out.lt; omega))
            go_wp2
            go_ret
            exact outPost HTE.out HRf.out HLf.out (HO.out.set_ 5 (.bool false))
          · have HTE : Aside0 (T = ({ l.outL tk k with owes := false }, [] ++ [(⟨l.epoch, l.peer, 0, l.taken, ⟨#[]⟩⟩ : FrT)])) := ⟨by rw [HT2.out, HP.out, HOO.out]; rfl⟩
            clear hp
            have h5 := h5a
            have HLj := Aside0.mk (HL.out.alloc (.cells #[.int .i64 l.epoch, .int .i64 l.peer, .int .i64 0, .int .i64 l.taken, .string ⟨#[]⟩] 46))
            have HXj := Aside0.mk (heap_alloc_new wr (.cells #[.int .i64 l.epoch, .int .i64 l.peer, .int .i64 0, .int .i64 l.taken, .string ⟨#[]⟩] 46))
            have HRj := Aside0.mk (Kd.R_alloc HR.out (.cells #[.int .i64 l.epoch, .int .i64 l.peer, .int .i64 0, .int .i64 l.taken, .string ⟨#[]⟩] 46))
            have HOj := Aside0.mk (HO.out.below (below_alloc (Below.refl _ _) (.cells #[.int .i64 l.epoch, .int .i64 l.peer, .int .i64 0, .int .i64 l.taken, .string ⟨#[]⟩] 46)))
            obtain ⟨e0, e1, e2, e3, e4, _, _, _, _, _⟩ := bx5 HE.out
            go_wp2_with (go_at_call 28; refine (join_calls (w.heap.size + 1) (.slice A3 0 c3) ([]) (⟨l.epoch, l.peer, 0, l.taken, ⟨#[]⟩⟩ : FrT) wr.heap.size _ HRj.out HXj.out (by simp; omega) (by simp)).mono ?_)
            intro e W9 hj9
            obtain ⟨v9, rfl, hR9, hg9⟩ := hj9
            have ho9 : Only _ W9 (fun i => w.heap.size ≤ i) := Only.ofGrown hg9 (fun k hk => by have := Kd.R_base HRj.out k hk; omega)
            have HL9 := Aside0.mk (H.out.far HLj.out ho9)
            have HO9 := Aside0.mk (HOj.out.far ho9)
            obtain ⟨A9, c9, e9⟩ := Kd.R_slice hR9
            subst e9
            have HR9 := Aside0.mk hR9
            clear hR9 hg9 ho9 h0 h1 h2 h3 h4 h5 h6 e0 e1 e2 e3 e4
            obtain ⟨h0, h1, h2, h3, h4, h5, h6⟩ := HL9.out.cells
            have hf5 := HL9.out.frozen 5
            have HLf := Aside0.mk (HL9.out.set1 5 (.bool false) { l.outL tk k with owes := false } rfl rfl)
            have HRf := Aside0.mk (R_only rfl (Kd.R_lower HR9.out (show w.heap.size ≤ w.heap.size + 1 by omega)) ((Only.refl W9 _).set_ (g := g) 5 (.bool false)) (fun k hk e => by have := Kd.R_base HR9.out k hk; have := H.out.lt; omega))
            go_wp2
            go_ret
            exact outPost HTE.out HRf.out HLf.out (HO9.out.set_ 5 (.bool false))
        · obtain ⟨p, hpl⟩ : ∃ p, (l.outF k).length = p := ⟨_, rfl⟩
          have hp0 : 0 < p := by rw [← hpl]; exact List.length_pos_iff.mpr hp
          have HTE : Aside0 (T = ({ l.outL tk k with owes := false }, l.outF k)) := ⟨by rw [HT2.out, if_neg (fun h => hp h.1)]⟩
          rw [hpl] at HR ⊢
          have dp : ((p : Int) == 0) = false := beq_eq_false_iff_ne.mpr (by omega)
          clear hp hpl
          have hf5 := HL.out.frozen 5
          have HLf := Aside0.mk (HL.out.set1 5 (.bool false) { l.outL tk k with owes := false } rfl rfl)
          have HRf := Aside0.mk (R_only rfl (Kd.R_lower HR.out (show w.heap.size ≤ w.heap.size + 1 by omega)) ((Only.refl wr _).set_ (g := g) 5 (.bool false)) (fun k hk e => by have := Kd.R_base HR.out k hk; have := H.out.lt; omega))
          go_wp2
          go_ret
          exact outPost HTE.out HRf.out HLf.out (HO.out.set_ 5 (.bool false))
theorem outs_calls (b g : Nat) (l : LkS) (V : Value) (w : World) (H : LkIs w b g l V) (hl : l.Ok) :
    Calls Try.prog 16 #[.pointer (some ⟨g, 0, none⟩)] w (OutPost w b g V l.outs) := by
  by_cases hz : l.peer = 0
  · exact outs_zero b g l V _ w ⟨H⟩ ⟨hl⟩ ⟨rfl⟩ hz
  · exact outs_some b g l V _ w ⟨H⟩ ⟨hl⟩ ⟨rfl⟩ hz

end Go.Proofs.Ytdpogggajdfedaa.P
