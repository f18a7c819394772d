import Derived.Test.YtnmcknfkmelnbaaDoorWalkS
import Derived.Outline
import Derived.Laws.BitsAllLaws
import Derived.WalkSpells
import Derived.StillTailTactics
namespace Go.Proofs.YtnmcknfkmelnbaaDoor.P
open Go.RowKit Go.Proofs.YtnmcknfkmelnbaaDoorW.PrintWords Go.Proofs.YtnmcknfkmelnbaaDoorW.PrintLast Go.Proofs.YtnmcknfkmelnbaaDoorW.PrintMore
attribute [local go_sem] max2_int min2_int max_two min_two max_three min_three max_four min_four
set_option linter.unusedVariables false
set_option linter.unusedSimpArgs false
theorem mk3p (W : World) : (Instr.makeSlice 57 (.int .i64 3) (.int .i64 3)).run Tryd.prog W = .ok (.slice (some ⟨W.heap.size, 0, none⟩) 3 3) (W.alloc (.cells #[.pointer none, .pointer none, .pointer none] 27)) := by kernel_rfl
theorem mk3b (W : World) : (Instr.makeSlice 51 (.int .i64 3) (.int .i64 3)).run Tryd.prog W = .ok (.slice (some ⟨W.heap.size, 0, none⟩) 3 3) (W.alloc (.cells #[.int .i64 0, .int .i64 0, .int .i64 0, .int .i64 0, .int .i64 0, .int .i64 0] 23)) := by kernel_rfl
theorem mkAcc1 (W : World) : (Instr.makeSlice 59 (.int .i64 1) (.int .i64 1)).run Tryd.prog W = .ok (.slice (some ⟨W.heap.size, 0, none⟩) 1 1) (W.alloc (.cells (accCells (List.replicate 1 AcS.zero)).toArray 34)) := by kernel_rfl
theorem mkAcc2 (W : World) : (Instr.makeSlice 59 (.int .i64 2) (.int .i64 2)).run Tryd.prog W = .ok (.slice (some ⟨W.heap.size, 0, none⟩) 2 2) (W.alloc (.cells (accCells (List.replicate 2 AcS.zero)).toArray 34)) := by kernel_rfl
theorem mkAcc3 (W : World) : (Instr.makeSlice 59 (.int .i64 3) (.int .i64 3)).run Tryd.prog W = .ok (.slice (some ⟨W.heap.size, 0, none⟩) 3 3) (W.alloc (.cells (accCells (List.replicate 3 AcS.zero)).toArray 34)) := by kernel_rfl
theorem mkAcc4 (W : World) : (Instr.makeSlice 59 (.int .i64 4) (.int .i64 4)).run Tryd.prog W = .ok (.slice (some ⟨W.heap.size, 0, none⟩) 4 4) (W.alloc (.cells (accCells (List.replicate 4 AcS.zero)).toArray 34)) := by kernel_rfl
theorem mkAcc5 (W : World) : (Instr.makeSlice 59 (.int .i64 5) (.int .i64 5)).run Tryd.prog W = .ok (.slice (some ⟨W.heap.size, 0, none⟩) 5 5) (W.alloc (.cells (accCells (List.replicate 5 AcS.zero)).toArray 34)) := by kernel_rfl
theorem mkAcc6 (W : World) : (Instr.makeSlice 59 (.int .i64 6) (.int .i64 6)).run Tryd.prog W = .ok (.slice (some ⟨W.heap.size, 0, none⟩) 6 6) (W.alloc (.cells (accCells (List.replicate 6 AcS.zero)).toArray 34)) := by kernel_rfl
theorem mkAcc7 (W : World) : (Instr.makeSlice 59 (.int .i64 7) (.int .i64 7)).run Tryd.prog W = .ok (.slice (some ⟨W.heap.size, 0, none⟩) 7 7) (W.alloc (.cells (accCells (List.replicate 7 AcS.zero)).toArray 34)) := by kernel_rfl
theorem mkAcc (n : Nat) (h1 : 1 ≤ n) (h7 : n ≤ 7) (W : World) : (Instr.makeSlice 59 (.int .i64 (n : Int)) (.int .i64 (n : Int))).run Tryd.prog W = .ok (.slice (some ⟨W.heap.size, 0, none⟩) n n) (W.alloc (.cells (accCells (List.replicate n AcS.zero)).toArray 34)) := by
  match n, h1, h7 with
  | 1, _, _ => exact mkAcc1 W
  | 2, _, _ => exact mkAcc2 W
  | 3, _, _ => exact mkAcc3 W
  | 4, _, _ => exact mkAcc4 W
  | 5, _, _ => exact mkAcc5 W
  | 6, _, _ => exact mkAcc6 W
  | 7, _, _ => exact mkAcc7 W
def px0 (n : Nat) : PxS := ⟨n, List.replicate n AcS.zero, 0, [none, none, none], [(0, 0), (0, 0), (0, 0)], []⟩
theorem px0_inv (n : Nat) (h1 : 1 ≤ n) (h7 : n ≤ 7) : PaxI (px0 n) (fun _ _ => False) (fun _ => none) := by
  refine ⟨⟨h1, h7⟩, Int.le_refl _, List.length_replicate, rfl, rfl, ?_, fun _ _ h => h.elim, fun _ h => absurd rfl h, ?_, ?_, fun _ _ h => (by cases h), fun _ h => (by cases h)⟩
  · intro k a ha
    have ha2 : (List.replicate n AcS.zero)[k]? = some a := ha
    rw [List.getElem?_replicate] at ha2
    split at ha2
    case isFalse => cases ha2
    obtain rfl := Option.some.inj ha2
    exact ⟨Int.le_refl _, Int.le_refl _, Int.le_refl _, fun _ h => h.elim, .inl ⟨rfl, rfl⟩, .inr ⟨rfl, rfl⟩, by show ¬ LessP 0 0 0 0; unfold LessP; omega, by decide, fun _ => by show (⟨#[]⟩ : ByteArray).toList = []; rw [toList_eq], .inl ⟨rfl, rfl⟩⟩
  · intro i p hp
    have : ∀ i : Nat, ([none, none, none] : List (Option PrS))[i]? ≠ some (some p) := by
      intro i h
      match i with
      | 0 | 1 | 2 => simp at h
      | _ + 3 => simp at h
    exact absurd hp (this i)
  · intro i j p q hp
    have : ∀ i : Nat, ([none, none, none] : List (Option PrS))[i]? ≠ some (some p) := by
      intro i h
      match i with
      | 0 | 1 | 2 => simp at h
      | _ + 3 => simp at h
    exact absurd hp (this i)
def pxB0 (gx ga gw gb go : Nat) : PxB := ⟨gx, ga, gw, gb, go, [none, none, none], .slice none 0 0⟩
theorem px0_is {w W : World} {gx ga gw gb go n : Nat} (h1 : 1 ≤ n) (h7 : n ≤ 7) (hX : W.heap[gx]? = some (.cells #[.int .i64 (n : Int), .slice (some ⟨ga, 0, none⟩) n n, .int .i64 0, .slice (some ⟨gw, 0, none⟩) 3 3, .slice (some ⟨gb, 0, none⟩) 3 3, .slice (some ⟨go, 0, none⟩) 3 3, .slice none 0 0] 61 (0, 0)))
    (hA : W.heap[ga]? = some (.cells (accCells (List.replicate n AcS.zero)).toArray 34 (0, 0))) (hW : W.heap[gw]? = some (.cells #[.pointer none, .pointer none, .pointer none] 27 (0, 0))) (hB : W.heap[gb]? = some (.cells #[.int .i64 0, .int .i64 0, .int .i64 0, .int .i64 0, .int .i64 0, .int .i64 0] 23 (0, 0)))
    (hO : W.heap[go]? = some (.cells #[.string redB, .string greenB, .string blueB] 9 (0, 0))) (hT : TabOk W) (hb : Below w.heap.size w W) (hg : w.heap.size ≤ gx ∧ w.heap.size ≤ ga ∧ w.heap.size ≤ gw ∧ w.heap.size ≤ gb ∧ w.heap.size ≤ go ∧ 0 < w.heap.size) : PxIs w W (pxB0 gx ga gw gb go) (px0 n) := by
  refine ⟨hX, hA, hW, hB, hO, Kd.R_nil _ _ _ _ _, rfl, rfl, rfl, List.length_replicate, ⟨h1, h7⟩, ?_, ?_, ?_, hT, hb, hg⟩
  · intro i g h
    have h2 : ([none, none, none] : List (Option Nat))[i]? = some (some g) := h
    match i with
    | 0 | 1 | 2 => simp at h2
    | _ + 3 => simp at h2
  · intro i h
    have h2 : ([none, none, none] : List (Option Nat))[i]? = some none := h
    match i with
    | 0 | 1 | 2 => rfl
    | _ + 3 => simp at h2
  · intro i j g h
    have h2 : ([none, none, none] : List (Option Nat))[i]? = some (some g) := h
    match i with
    | 0 | 1 | 2 => simp at h2
    | _ + 3 => simp at h2
theorem all_rd64 {l : List S64} (h : (l.all fun x => inB x.f0 && inB x.f1 && inB x.f2) = true) (i : Nat) (hi : i < l.length) : inB (rd_T64 l (i : Int)).f0 = true ∧ inB (rd_T64 l (i : Int)).f1 = true ∧ inB (rd_T64 l (i : Int)).f2 = true := by
  have h2 := List.all_eq_true.1 h (rd_T64 l (i : Int)) (by unfold rd_T64; rw [show ((i : Int)).toNat = i from rfl, List.getD_eq_getElem?_getD, List.getElem?_eq_getElem hi]; exact List.getElem_mem hi)
  simp only [Bool.and_eq_true] at h2
  exact ⟨h2.1.1, h2.1.2, h2.2⟩
theorem rdOf_mem (l : List ByteArray) (j : Nat) (h : j < l.length) : rdOf ByteArray.empty l (j : Int) ∈ l := by
  unfold rdOf
  rw [show ((j : Int)).toNat = j from rfl, List.getD_eq_getElem?_getD, List.getElem?_eq_getElem h]
  exact List.getElem_mem h
attribute [local go_sem high] eqA23
def agR.T2 : Bool × List (List Nat × List Nat) := (true, [([], []), ([0], [0]), ([1], [1]), ([], []), ([], []), ([], []), ([2, 3, 4, 5], [2, 3, 4, 5]), ([6], [6]), ([7, 1, 0, 1, 2, 3, 4, 5, 6, 7], [7])])
def agR.B2 : List Nat := [0, 1, 3, 0, 0, 0, 63, 127, 255]
theorem agR.tab2 : rtab .any (opsOf Tryd.f5 2) = agR.T2 := by kernel_rfl
theorem agR.bits2 : waitsOk agR.T2.2 agR.B2 = true := by kernel_rfl
def carillonlaw11_ProposerAgrees.f (a0 : Int) (l1 : List S64) : Option Bool :=
  if inB a0 = true ∧ (l1.all fun x => inB x.f0 && inB x.f1 && inB x.f2) = true then some true else none
set_option maxHeartbeats 16000000 in
set_option maxRecDepth 100000 in
theorem carillonlaw11_ProposerAgrees.calls (a0 : Int) (A1 : Option Addr) (c1 : Nat) (l1 : List S64) (r : Bool) (w : World) (hr1 : Kd.C k64 w A1 l1.length l1) (hc1 : l1.length ≤ c1) (hr_ : Aside0 (r = true)) (HT_ : TabOk w) (h : carillonlaw11_ProposerAgrees.f a0 l1 = some r) :
    Calls Tryd.prog 5 #[.int .i64 a0, .slice A1 l1.length c1] w fun e w' => e = .returned (.bool r) ∧ Below w.heap.size w w' := by
  obtain rfl := hr_.out
  unfold carillonlaw11_ProposerAgrees.f at h
  split at h
  case isFalse => exact absurd h (by simp)
  rename_i hcond
  obtain ⟨hi0, hi1⟩ := hcond
  have hmkp := mk3p
  have hmkb := mk3b
  have HI1 := Aside0.mk hi1
  have HR1 := Aside0.mk hr1
  have hm1 := hr1.2.1
  have h0lt : 0 < w.heap.size := World.block_lt_of_cell? w _ (HT_.siz0 0 (by decide))
  have HT0 := Aside0.mk HT_
  obtain ⟨k0, hk0⟩ : ∃ k0, pickN a0 7 = k0 := ⟨_, rfl⟩
  have hk7 : k0 < 7 := by rw [← hk0]; exact pickN_lt a0 7 (by decide)
  have HPK := Aside0.mk (fun W => pick_calls a0 7 W hi0 (by decide) (by decide))
  simp only [hk0] at HPK
  have hw1 : wrap64 (1 + (k0 : Int)) = ((k0 + 1 : Nat) : Int) := by unfold wrap64; omega
  clear hr1 hi1 HT_ hi0 hk0 h hr_
  obtain ⟨n, hn⟩ : ∃ n, k0 + 1 = n := ⟨_, rfl⟩
  have hn1 : 1 ≤ n := by omega
  have hn7 : n ≤ 7 := by omega
  rw [hn] at hw1
  clear hn hk7
  have hmk := mkAcc n hn1 hn7
  go_enter Tryd.func5, Tryd.ntmps5
  go_wp2_with (go_at_call 7; refine (examples_calls w HT0.out).mono ?_)
  rintro e W1 ⟨rfl, hB1⟩
  have HB1 := Aside0.mk hB1
  have HT1 := Aside0.mk (HT0.out.below hB1)
  clear hB1
  go_wp2
  refine start_ (n := 9) (S := fun _ => True) (ds := []) (bz 9 0) (by kernel_rfl) rfl rfl trivial (fun hHeld => ?_); refine with_tabW agR.tab2 agR.bits2 (fun HT_ HW_ => ?_)
  generalize hWd : World.drew _ = Wd
  have HBd : Aside0 (Below w.heap.size w Wd) := ⟨by rw [← hWd]; exact below_drew HB1.out⟩
  clear hWd hHeld HB1 HT1
  refine pu_ 0 (some 11) (bz 9 1) HT_.out ?_
  refine inv_at [1, 2, 3, 4, 5, 6, 7, 8] (fun a0_ b a w' => ∃ (m3 m4 m5 m6 m7 m8 : Value), a = putSel a0_ b [(1, 12, .int .i64 (k0 : Int)), (2, 13, .int .i64 (n : Int)), (3, 14, m3), (4, 15, m4), (5, 16, m5), (6, 17, m6), (7, 18, m7), (8, 6, m8)] ∧ Below w.heap.size w w' ∧ (b 3 = true → (∃ s, m3 = .slice (some ⟨s, 0, none⟩) 3 3 ∧ w.heap.size ≤ s ∧ w'.heap[s]? = some (.cells #[.pointer none, .pointer none, .pointer none] 27 (0, 0)))) ∧ (b 4 = true → (∃ s, m4 = .slice (some ⟨s, 0, none⟩) 3 3 ∧ w.heap.size ≤ s ∧ w'.heap[s]? = some (.cells #[.int .i64 0, .int .i64 0, .int .i64 0, .int .i64 0, .int .i64 0, .int .i64 0] 23 (0, 0)))) ∧ (b 5 = true → (∃ s, m5 = .slice (some ⟨s, 0, none⟩) 3 3 ∧ w.heap.size ≤ s ∧ w'.heap[s]? = some (.cells #[.string redB, .string greenB, .string blueB] 9 (0, 0)))) ∧ (b 6 = true → m6 = .agg #[.int .i64 (n : Int), .slice none 0 0, .int .i64 0, m3, m4, m5, .slice none 0 0]) ∧ (b 7 = true → ∃ s, m7 = .pointer (some ⟨s, 0, none⟩) ∧ w.heap.size ≤ s ∧ w'.heap[s]? = some (.cells #[.int .i64 (n : Int), .slice none 0 0, .int .i64 0, m3, m4, m5, .slice none 0 0] 61 (0, 0))) ∧ (b 8 = true → m8 = m7)) HT_.out HW_.out (by kernel_rfl) (by kernel_rfl) ?_ ?_ ?_
  · exact ⟨undef, undef, undef, undef, undef, undef, by simp only [putSel, Bool.false_eq_true, if_false], HBd.out, fun h_ => absurd h_ (by decide), fun h_ => absurd h_ (by decide), fun h_ => absurd h_ (by decide), fun h_ => absurd h_ (by decide), fun h_ => absurd h_ (by decide), fun h_ => absurd h_ (by decide)⟩
  · skip
    refine steps_cons ?_ ?_
    · rintro b a w' ⟨m3, m4, m5, m6, m7, m8, ha, hB, h3, h4, h5, h6, h7, h8⟩ hb_ hon hoff
      refine ⟨_, rfl, fun K hK => ?_⟩
      have e11 : a.tmps[11]? = some (.int .i64 a0) := by rw [ha]; exact (putSel_off rfl).trans rfl
      replace ha := Aside0.mk ha
      refine goes_ Tryd.func10 (by kernel_rfl) rfl #[.int .i64 a0, .int .i64 7] (by rfl) rfl rfl (by first | (simp only [List.map_toArray, List.map_cons, List.map_nil, Act.eval, Array.getD_eq_getD_getElem?, e11, Option.getD_some]; done) | (simp only [List.map_toArray, List.map_cons, List.map_nil, Act.eval, Array.getD_eq_getD_getElem?, e11, Option.getD_some]; rfl)) ?_
      refine (HPK.out _).mono ?_
      rintro e w2 ⟨rfl, m2_, rfl⟩
      refine ⟨_, rfl, ?_⟩
      have hb2 : Below w'.heap.size w' (w'.drewN m2_) := pw_below_drewN (Below.refl _ _) m2_
      exact hK.out _ _ ⟨m3, m4, m5, m6, m7, m8, (by rw [ha.out]; exact putSel_upk 0 hb_ rfl rfl rfl), pw_below_drewN hB m2_, fun hb => (h3 hb).imp fun s hs => ⟨hs.1, hs.2.1, blk_below hs.2.2 hb2⟩, fun hb => (h4 hb).imp fun s hs => ⟨hs.1, hs.2.1, blk_below hs.2.2 hb2⟩, fun hb => (h5 hb).imp fun s hs => ⟨hs.1, hs.2.1, blk_below hs.2.2 hb2⟩, h6, fun hb => (h7 hb).imp fun s hs => ⟨hs.1, hs.2.1, blk_below hs.2.2 hb2⟩, h8⟩
    refine steps_cons ?_ ?_
    · rintro b a w' ⟨m3, m4, m5, m6, m7, m8, ha, hB, h3, h4, h5, h6, h7, h8⟩ hb_ hon hoff
      refine ⟨_, rfl, fun K hK => ?_⟩
      have e12 : a.tmps[12]? = some (.int .i64 (k0 : Int)) := by rw [ha]; exact putSel_on (e := (1, 12, .int .i64 (k0 : Int))) 0 rfl rfl (hon 1 (by kernel_rfl)) rfl
      replace ha := Aside0.mk ha
      refine value_ (w1 := w') (v := .int .i64 (n : Int)) (by rfl) rfl ?_ ?_
      · go_simp
        (try simp only [i64_w])
        (try rw [hw1])
        try rfl
      exact hK.out _ _ ⟨m3, m4, m5, m6, m7, m8, (by rw [ha.out]; exact putSel_upk 1 hb_ rfl rfl rfl), hB, h3, h4, h5, fun h0_ => absurd ((hoff 6 (by kernel_rfl)).symm.trans h0_) (by decide), h7, h8⟩
    refine steps_cons ?_ ?_
    · rintro b a w' ⟨m3, m4, m5, m6, m7, m8, ha, hB, h3, h4, h5, h6, h7, h8⟩ hb_ hon hoff
      refine ⟨_, rfl, fun K hK => ?_⟩
      replace ha := Aside0.mk ha
      refine value_ (w1 := w'.alloc (.cells #[.pointer none, .pointer none, .pointer none] 27)) (v := .slice (some ⟨w'.heap.size, 0, none⟩) 3 3) (by rfl) rfl ?_ ?_
      · go_simp
        try rfl
      exact hK.out _ _ ⟨(.slice (some ⟨w'.heap.size, 0, none⟩) 3 3), m4, m5, m6, m7, m8, (by rw [ha.out]; exact putSel_upk 2 hb_ rfl rfl rfl), below_alloc hB _, fun _ => ⟨_, rfl, hB.size, heap_alloc_new w' _⟩, fun hb => (h4 hb).imp fun s hs => ⟨hs.1, hs.2.1, blk_alloc hs.2.2 _⟩, fun hb => (h5 hb).imp fun s hs => ⟨hs.1, hs.2.1, blk_alloc hs.2.2 _⟩, fun h0_ => absurd ((hoff 6 (by kernel_rfl)).symm.trans h0_) (by decide), fun h0_ => absurd ((hoff 7 (by kernel_rfl)).symm.trans h0_) (by decide), h8⟩
    refine steps_cons ?_ ?_
    · rintro b a w' ⟨m3, m4, m5, m6, m7, m8, ha, hB, h3, h4, h5, h6, h7, h8⟩ hb_ hon hoff
      refine ⟨_, rfl, fun K hK => ?_⟩
      replace ha := Aside0.mk ha
      refine value_ (w1 := w'.alloc (.cells #[.int .i64 0, .int .i64 0, .int .i64 0, .int .i64 0, .int .i64 0, .int .i64 0] 23)) (v := .slice (some ⟨w'.heap.size, 0, none⟩) 3 3) (by rfl) rfl ?_ ?_
      · go_simp
        try rfl
      exact hK.out _ _ ⟨m3, (.slice (some ⟨w'.heap.size, 0, none⟩) 3 3), m5, m6, m7, m8, (by rw [ha.out]; exact putSel_upk 3 hb_ rfl rfl rfl), below_alloc hB _, fun hb => (h3 hb).imp fun s hs => ⟨hs.1, hs.2.1, blk_alloc hs.2.2 _⟩, fun _ => ⟨_, rfl, hB.size, heap_alloc_new w' _⟩, fun hb => (h5 hb).imp fun s hs => ⟨hs.1, hs.2.1, blk_alloc hs.2.2 _⟩, fun h0_ => absurd ((hoff 6 (by kernel_rfl)).symm.trans h0_) (by decide), fun h0_ => absurd ((hoff 7 (by kernel_rfl)).symm.trans h0_) (by decide), h8⟩
    refine steps_cons ?_ ?_
    · rintro b a w' ⟨m3, m4, m5, m6, m7, m8, ha, hB, h3, h4, h5, h6, h7, h8⟩ hb_ hon hoff
      refine ⟨_, rfl, fun K hK => ?_⟩
      replace ha := Aside0.mk ha
      refine value_ (w1 := w'.alloc (.cells #[.string redB, .string greenB, .string blueB] 9)) (v := .slice (some ⟨w'.heap.size, 0, none⟩) 3 3) (by rfl) rfl ?_ ?_
      · go_simp
        try rfl
      exact hK.out _ _ ⟨m3, m4, (.slice (some ⟨w'.heap.size, 0, none⟩) 3 3), m6, m7, m8, (by rw [ha.out]; exact putSel_upk 4 hb_ rfl rfl rfl), below_alloc hB _, fun hb => (h3 hb).imp fun s hs => ⟨hs.1, hs.2.1, blk_alloc hs.2.2 _⟩, fun hb => (h4 hb).imp fun s hs => ⟨hs.1, hs.2.1, blk_alloc hs.2.2 _⟩, fun _ => ⟨_, rfl, hB.size, heap_alloc_new w' _⟩, fun h0_ => absurd ((hoff 6 (by kernel_rfl)).symm.trans h0_) (by decide), fun h0_ => absurd ((hoff 7 (by kernel_rfl)).symm.trans h0_) (by decide), h8⟩
    refine steps_cons ?_ ?_
    · rintro b a w' ⟨m3, m4, m5, m6, m7, m8, ha, hB, h3, h4, h5, h6, h7, h8⟩ hb_ hon hoff
      refine ⟨_, rfl, fun K hK => ?_⟩
      have e13 : a.tmps[13]? = some (.int .i64 (n : Int)) := by rw [ha]; exact putSel_on (e := (2, 13, .int .i64 (n : Int))) 1 rfl rfl (hon 2 (by kernel_rfl)) rfl
      have e14 : a.tmps[14]? = some (m3) := by rw [ha]; exact putSel_on (e := (3, 14, m3)) 2 rfl rfl (hon 3 (by kernel_rfl)) rfl
      have e15 : a.tmps[15]? = some (m4) := by rw [ha]; exact putSel_on (e := (4, 15, m4)) 3 rfl rfl (hon 4 (by kernel_rfl)) rfl
      have e16 : a.tmps[16]? = some (m5) := by rw [ha]; exact putSel_on (e := (5, 16, m5)) 4 rfl rfl (hon 5 (by kernel_rfl)) rfl
      obtain ⟨s3, q3, -⟩ := h3 (hon 3 (by kernel_rfl))
      obtain ⟨s4, q4, -⟩ := h4 (hon 4 (by kernel_rfl))
      obtain ⟨s5, q5, -⟩ := h5 (hon 5 (by kernel_rfl))
      rw [q3] at e14
      rw [q4] at e15
      rw [q5] at e16
      replace ha := Aside0.mk ha
      refine value_ (w1 := w') (v := .agg #[.int .i64 (n : Int), .slice none 0 0, .int .i64 0, .slice (some ⟨s3, 0, none⟩) 3 3, .slice (some ⟨s4, 0, none⟩) 3 3, .slice (some ⟨s5, 0, none⟩) 3 3, .slice none 0 0]) (by rfl) rfl ?_ ?_
      · go_simp
        try rfl
      exact hK.out _ _ ⟨m3, m4, m5, .agg #[.int .i64 (n : Int), .slice none 0 0, .int .i64 0, .slice (some ⟨s3, 0, none⟩) 3 3, .slice (some ⟨s4, 0, none⟩) 3 3, .slice (some ⟨s5, 0, none⟩) 3 3, .slice none 0 0], m7, m8, (by rw [ha.out]; exact putSel_upk 5 hb_ rfl rfl rfl), hB, h3, h4, h5, fun _ => by rw [q3, q4, q5], fun h0_ => absurd ((hoff 7 (by kernel_rfl)).symm.trans h0_) (by decide), h8⟩
    refine steps_cons ?_ ?_
    · rintro b a w' ⟨m3, m4, m5, m6, m7, m8, ha, hB, h3, h4, h5, h6, h7, h8⟩ hb_ hon hoff
      refine ⟨_, rfl, fun K hK => ?_⟩
      have e17 : a.tmps[17]? = some (m6) := by rw [ha]; exact putSel_on (e := (6, 17, m6)) 5 rfl rfl (hon 6 (by kernel_rfl)) rfl
      rw [h6 (hon 6 (by kernel_rfl))] at e17
      replace ha := Aside0.mk ha
      refine box_step ?hg (N := 18) ?hd (cs := #[.int .i64 (n : Int), .slice none 0 0, .int .i64 0, m3, m4, m5, .slice none 0 0]) (t := 61) ?hr ?_; (case hd => rfl); (case hg => rfl); (case hr => first | (go_simp; done) | (go_simp; rfl))
      intro gx hg w2 hbox hb2
      subst hg
      exact hK.out _ _ ⟨m3, m4, m5, m6, .pointer (some ⟨w'.heap.size, 0, none⟩), m8, (by rw [ha.out]; exact putSel_upk 6 hb_ rfl rfl rfl), below_step hB hb2, fun hb => (h3 hb).imp fun s hs => ⟨hs.1, hs.2.1, blk_below hs.2.2 hb2⟩, fun hb => (h4 hb).imp fun s hs => ⟨hs.1, hs.2.1, blk_below hs.2.2 hb2⟩, fun hb => (h5 hb).imp fun s hs => ⟨hs.1, hs.2.1, blk_below hs.2.2 hb2⟩, h6, fun _ => ⟨_, rfl, hB.size, hbox⟩, fun h0_ => absurd ((hoff 8 (by kernel_rfl)).symm.trans h0_) (by decide)⟩
    refine steps_cons ?_ ?_
    · rintro b a w' ⟨m3, m4, m5, m6, m7, m8, ha, hB, h3, h4, h5, h6, h7, h8⟩ hb_ hon hoff
      refine ⟨_, rfl, fun K hK => ?_⟩
      have e18 : a.tmps[18]? = some (m7) := by rw [ha]; exact putSel_on (e := (7, 18, m7)) 6 rfl rfl (hon 7 (by kernel_rfl)) rfl
      replace ha := Aside0.mk ha
      refine value_ (w1 := w') (v := m7) (by rfl) rfl ?_ ?_
      · go_simp
        try rfl
      exact hK.out _ _ ⟨m3, m4, m5, m6, m7, m7, (by rw [ha.out]; exact putSel_upk 7 hb_ rfl rfl rfl), hB, h3, h4, h5, h6, h7, fun _ => rfl⟩
    exact steps_nil
  rintro b a W2 hall ⟨m3, m4, m5, m6, m7, m8, ha, hB, h3, h4, h5, h6, h7, h8⟩
  have hb1_ := hall 1 (by kernel_rfl)
  have hb2_ := hall 2 (by kernel_rfl)
  have hb3_ := hall 3 (by kernel_rfl)
  have hb4_ := hall 4 (by kernel_rfl)
  have hb5_ := hall 5 (by kernel_rfl)
  have hb6_ := hall 6 (by kernel_rfl)
  have hb7_ := hall 7 (by kernel_rfl)
  have hb8_ := hall 8 (by kernel_rfl)
  subst ha
  obtain ⟨gw, rfl, hgw, HW⟩ := h3 hb3_
  obtain ⟨gb, rfl, hgb, HB⟩ := h4 hb4_
  obtain ⟨go, rfl, hgo, HO⟩ := h5 hb5_
  obtain rfl := h6 hb6_
  obtain ⟨gx, rfl, hgx, HX⟩ := h7 hb7_
  obtain rfl := h8 hb8_
  simp only [putSel, hb1_, hb2_, hb3_, hb4_, hb5_, hb6_, hb7_, hb8_, if_true, Act.put, sl1, sl2, sl3]
  clear hall hb1_ hb2_ hb3_ hb4_ hb5_ hb6_ hb7_ hb8_ h3 h4 h5 h6 h7 h8 HT_ HW_ HBd
  have hgxlt := blk_lt HX
  have hcX0 : W2.cell? ⟨gx, 0, none⟩ = some (.int .i64 (n : Int)) := (blk_cell HX 0).trans rfl
  have hXa := blk_alloc HX (.cells (accCells (List.replicate n AcS.zero)).toArray 34)
  have hcX1 : (W2.alloc (.cells (accCells (List.replicate n AcS.zero)).toArray 34)).cell? ⟨gx, 1, none⟩ = some (.slice none 0 0) := (blk_cell hXa 1).trans rfl
  have hfX1 := blk_frozen hXa 1
  go_wp2
  have hX3 : PxIs w ((W2.setCell ⟨gx, 1, none⟩ (.slice (some ⟨W2.heap.size, 0, none⟩) n n)).alloc (.cells (accCells (List.replicate n AcS.zero)).toArray 34)) (pxB0 gx W2.heap.size gw gb go) (px0 n) := by
    have hB3 := below_alloc (below_set hB hgx (j := 1) (v := .slice (some ⟨W2.heap.size, 0, none⟩) n n)) (.cells (accCells (List.replicate n AcS.zero)).toArray 34)
    have hsz : (W2.setCell ⟨gx, 1, none⟩ (.slice (some ⟨W2.heap.size, 0, none⟩) n n)).heap.size = W2.heap.size := World.size_setCell ..
    exact px0_is hn1 hn7 (blk_alloc (blk_put HX 1 _ rfl) _) (by have hn_ := blk_new (W2.setCell ⟨gx, 1, none⟩ (.slice (some ⟨W2.heap.size, 0, none⟩) n n)) (.cells (accCells (List.replicate n AcS.zero)).toArray 34); rw [hsz] at hn_; exact hn_) (blk_alloc (blk_far HW (blk_ne HW HX (by decide)) _) _) (blk_alloc (blk_far HB (blk_ne HB HX (by decide)) _) _) (blk_alloc (blk_far HO (blk_ne HO HX (by decide)) _) _) (HT0.out.below hB3) hB3 ⟨hgx, hB.size, hgw, hgb, hgo, h0lt⟩
  have HX3 := Aside0.mk hX3
  clear hX3 hcX0 hcX1 hfX1 hXa hgxlt HX HW HB HO hB hgx hgw hgb hgo hmk hmkp hmkb HPK hw1
  generalize ((W2.setCell ⟨gx, 1, none⟩ (.slice (some ⟨W2.heap.size, 0, none⟩) n n)).alloc (.cells (accCells (List.replicate n AcS.zero)).toArray 34)) = W3 at HX3 ⊢
  obtain ⟨B0, hB0⟩ : ∃ B0, pxB0 gx W2.heap.size gw gb go = B0 := ⟨_, rfl⟩
  have hgx0 : B0.gx = gx := by rw [← hB0]; rfl
  rw [hB0] at HX3
  clear hB0
  go_loopg [7] (l1.length + 1) (fun kq v7 W => ∃ (i : Nat) (x : PxS) (B : PxB), i ≤ l1.length ∧ i ≤ 300 ∧ v7 = .int .i64 (i : Int) ∧ l1.length - i < kq ∧ B.gx = gx ∧ Aside0 (PxIs w W B x) ∧ Aside0 ((∃ vt pv, PaxI x vt pv) ∧ x.top ≤ i ∧ x.said.length ≤ i))
  case atStart => exact ⟨0, px0 n, B0, Nat.zero_le _, Nat.zero_le _, rfl, by omega, hgx0, HX3, ⟨⟨_, _, px0_inv n hn1 hn7⟩, Int.le_refl _, Nat.le_refl _⟩⟩
  case round =>
    obtain ⟨i, x, B, hi, hi3, rfl, hq, hgB, HX, HI⟩ := hrel
    clear HX3 hgx0 hn1 hn7
    by_cases hlt : i < l1.length ∧ i < 300
    · obtain ⟨hl, hl3⟩ := hlt
      have hdc : decide ((i : Int) < 300) = true := decide_eq_true (by omega)
      obtain ⟨ad, e0, ht0, ht1, ht2⟩ := at_T64 (Kd.C_below HR1.out HX.out.Bl) (i : Int) (by omega) (by omega)
      cases e0
      have hyb := all_rd64 HI1.out i hl
      rw [show ((i : Int)).toNat = i from rfl] at ht0 ht1 ht2
      generalize rd_T64 l1 (i : Int) = y at ht0 ht1 ht2 hyb
      obtain ⟨yk, yp, ya⟩ := y
      dsimp only at ht0 ht1 ht2 hyb
      have HYB := Aside0.mk hyb
      clear hyb
      have HSC := step_calls w wr B x yk yp ya HYB.out.1 HYB.out.2.1 HYB.out.2.2 HX.out HI.out.1 (by have := HI.out.2.1; omega) (by have := HI.out.2.2; omega)
      rw [hgB] at HSC
      have HSC1 := Aside0.mk HSC
      clear HSC
      go_wp2_with (go_at_call 23; refine HSC1.out.mono ?_)
      rintro e W5 ⟨rfl, B5, hB5, HX5⟩
      have HX5 := Aside0.mk HX5
      have hst := x.stepF_top yk yp ya
      have HI5 := Aside0.mk (And.intro (PaxI.stepF HI.out.1 yk yp ya) (And.intro (show (x.stepF yk yp ya).top ≤ (i : Int) + 1 by have := HI.out.2.1; omega) (show (x.stepF yk yp ya).said.length ≤ i + 1 by have := HI.out.2.2; omega)))
      clear hst HSC1 HYB HX HI ht0 ht1 ht2
      go_wp2
      go_roundg (l1.length - i)
      case rel => exact ⟨i + 1, _, B5, by omega, by omega, by first | go_num | (congr 1; omega) | rfl, by omega, hB5, HX5, HI5⟩
      case measure => omega
    · by_cases hl : i < l1.length
      · have hd1 : decide ((i : Int) < (l1.length : Int)) = true := decide_eq_true (by omega)
        have hd2 : decide ((i : Int) < 300) = false := decide_eq_false (by omega)
        obtain ⟨hI0, htop, hsl⟩ := HI.out
        obtain ⟨vt, pv, hI1⟩ := hI0
        have HPI := Aside0.mk hI1
        have HSL := Aside0.mk hsl
        clear hI1 htop hsl HI hq
        have HX9 := HX
        go_wp2
        clear HX hlt hl
        go_loopg [9] (x.said.length + 1) (fun kq v9 W => ∃ (j : Nat), j ≤ x.said.length ∧ v9 = .int .i64 (j : Int) ∧ x.said.length - j < kq ∧ Aside0 (PxIs w W B x))
        case atStart => exact ⟨0, Nat.zero_le _, rfl, by omega, HX9⟩
        case round =>
          obtain ⟨j, hj, rfl, hq, HX⟩ := hrel
          clear HX9
          obtain ⟨Ao, co, eo, hco, hCo⟩ := Kd.R_reads HX.out.S
          have hmo := Kd.C_max hCo
          have hcX6 : wr.cell? ⟨gx, 6, none⟩ = some (.slice Ao x.said.length co) := by rw [← hgB, ← eo]; exact (blk_cell HX.out.X 6).trans rfl
          clear eo
          by_cases hjl : j < x.said.length
          · obtain ⟨ad, e0, hs1⟩ := Kd.at_string hCo (j : Int) (by omega) (by omega)
            cases e0
            obtain ⟨ad2, e2, hs0⟩ := Kd.at_string hCo 0 (by omega) (by omega)
            cases e2
            have hm1_ : rdOf ByteArray.empty x.said (j : Int) ∈ x.said := rdOf_mem x.said j hjl
            have hm0_ : rdOf ByteArray.empty x.said 0 ∈ x.said := rdOf_mem x.said 0 (by omega)
            rw [HPI.out.one hm1_ hm0_] at hs1
            have how : rdOf ByteArray.empty x.said 0 = redB ∨ rdOf ByteArray.empty x.said 0 = greenB ∨ rdOf ByteArray.empty x.said 0 = blueB := by
              obtain ⟨r, h1, -⟩ := HPI.out.said _ hm0_
              exact HPI.out.own' h1
            rw [show ((j : Int)).toNat = j from rfl] at hs1
            rw [show ((0 : Int)).toNat = 0 from rfl] at hs0
            clear hm1_ hm0_ hCo
            generalize rdOf ByteArray.empty x.said 0 = s0 at hs1 hs0 how
            obtain ⟨ms, hms⟩ : ∃ ms, x.said.length = ms := ⟨_, rfl⟩
            rw [hms] at hcX6 hjl
            have hl0 : (0 : Int) < (ms : Int) := by omega
            have hl0n : 0 < ms := by omega
            have hljl : (j : Int) < (ms : Int) := by omega
            rcases how with rfl | rfl | rfl
            · have hs1a : wr.cell? (ad.add j) = some (.string ⟨#[114, 101, 100]⟩) := hs1
              have hs0a : wr.cell? (ad.add 0) = some (.string ⟨#[114, 101, 100]⟩) := hs0
              have hs0b : wr.cell? ad = some (.string ⟨#[114, 101, 100]⟩) := hs0
              clear hs1 hs0
              go_wp2
              go_quiet (fail)
              go_wp2
              go_roundg (x.said.length - j)
              case rel => exact ⟨j + 1, by omega, by first | go_num | (congr 1; omega) | rfl, by omega, ⟨HX.out.drewN _⟩⟩
              case measure => omega
            · have hs1a : wr.cell? (ad.add j) = some (.string ⟨#[103, 114, 101, 101, 110]⟩) := hs1
              have hs0a : wr.cell? (ad.add 0) = some (.string ⟨#[103, 114, 101, 101, 110]⟩) := hs0
              have hs0b : wr.cell? ad = some (.string ⟨#[103, 114, 101, 101, 110]⟩) := hs0
              clear hs1 hs0
              go_wp2
              go_quiet (fail)
              go_wp2
              go_roundg (x.said.length - j)
              case rel => exact ⟨j + 1, by omega, by first | go_num | (congr 1; omega) | rfl, by omega, ⟨HX.out.drewN _⟩⟩
              case measure => omega
            · have hs1a : wr.cell? (ad.add j) = some (.string ⟨#[98, 108, 117, 101]⟩) := hs1
              have hs0a : wr.cell? (ad.add 0) = some (.string ⟨#[98, 108, 117, 101]⟩) := hs0
              have hs0b : wr.cell? ad = some (.string ⟨#[98, 108, 117, 101]⟩) := hs0
              clear hs1 hs0
              go_wp2
              go_quiet (fail)
              go_wp2
              go_roundg (x.said.length - j)
              case rel => exact ⟨j + 1, by omega, by first | go_num | (congr 1; omega) | rfl, by omega, ⟨HX.out.drewN _⟩⟩
              case measure => omega
          · have hd3 : decide ((j : Int) < (x.said.length : Int)) = false := decide_eq_false (by omega)
            go_wp2
            go_ret
            exact ⟨rfl, HX.out.Bl⟩
      · have hd1 : decide ((i : Int) < (l1.length : Int)) = false := decide_eq_false (by omega)
        obtain ⟨hI0, htop, hsl⟩ := HI.out
        obtain ⟨vt, pv, hI1⟩ := hI0
        have HPI := Aside0.mk hI1
        have HSL := Aside0.mk hsl
        clear hI1 htop hsl HI hq
        have HX9 := HX
        go_wp2
        clear HX hlt hl
        go_loopg [9] (x.said.length + 1) (fun kq v9 W => ∃ (j : Nat), j ≤ x.said.length ∧ v9 = .int .i64 (j : Int) ∧ x.said.length - j < kq ∧ Aside0 (PxIs w W B x))
        case atStart => exact ⟨0, Nat.zero_le _, rfl, by omega, HX9⟩
        case round =>
          obtain ⟨j, hj, rfl, hq, HX⟩ := hrel
          clear HX9
          obtain ⟨Ao, co, eo, hco, hCo⟩ := Kd.R_reads HX.out.S
          have hmo := Kd.C_max hCo
          have hcX6 : wr.cell? ⟨gx, 6, none⟩ = some (.slice Ao x.said.length co) := by rw [← hgB, ← eo]; exact (blk_cell HX.out.X 6).trans rfl
          clear eo
          by_cases hjl : j < x.said.length
          · obtain ⟨ad, e0, hs1⟩ := Kd.at_string hCo (j : Int) (by omega) (by omega)
            cases e0
            obtain ⟨ad2, e2, hs0⟩ := Kd.at_string hCo 0 (by omega) (by omega)
            cases e2
            have hm1_ : rdOf ByteArray.empty x.said (j : Int) ∈ x.said := rdOf_mem x.said j hjl
            have hm0_ : rdOf ByteArray.empty x.said 0 ∈ x.said := rdOf_mem x.said 0 (by omega)
            rw [HPI.out.one hm1_ hm0_] at hs1
            have how : rdOf ByteArray.empty x.said 0 = redB ∨ rdOf ByteArray.empty x.said 0 = greenB ∨ rdOf ByteArray.empty x.said 0 = blueB := by
              obtain ⟨r, h1, -⟩ := HPI.out.said _ hm0_
              exact HPI.out.own' h1
            rw [show ((j : Int)).toNat = j from rfl] at hs1
            rw [show ((0 : Int)).toNat = 0 from rfl] at hs0
            clear hm1_ hm0_ hCo
            generalize rdOf ByteArray.empty x.said 0 = s0 at hs1 hs0 how
            obtain ⟨ms, hms⟩ : ∃ ms, x.said.length = ms := ⟨_, rfl⟩
            rw [hms] at hcX6 hjl
            have hl0 : (0 : Int) < (ms : Int) := by omega
            have hl0n : 0 < ms := by omega
            have hljl : (j : Int) < (ms : Int) := by omega
            rcases how with rfl | rfl | rfl
            · have hs1a : wr.cell? (ad.add j) = some (.string ⟨#[114, 101, 100]⟩) := hs1
              have hs0a : wr.cell? (ad.add 0) = some (.string ⟨#[114, 101, 100]⟩) := hs0
              have hs0b : wr.cell? ad = some (.string ⟨#[114, 101, 100]⟩) := hs0
              clear hs1 hs0
              go_wp2
              go_quiet (fail)
              go_wp2
              go_roundg (x.said.length - j)
              case rel => exact ⟨j + 1, by omega, by first | go_num | (congr 1; omega) | rfl, by omega, ⟨HX.out.drewN _⟩⟩
              case measure => omega
            · have hs1a : wr.cell? (ad.add j) = some (.string ⟨#[103, 114, 101, 101, 110]⟩) := hs1
              have hs0a : wr.cell? (ad.add 0) = some (.string ⟨#[103, 114, 101, 101, 110]⟩) := hs0
              have hs0b : wr.cell? ad = some (.string ⟨#[103, 114, 101, 101, 110]⟩) := hs0
              clear hs1 hs0
              go_wp2
              go_quiet (fail)
              go_wp2
              go_roundg (x.said.length - j)
              case rel => exact ⟨j + 1, by omega, by first | go_num | (congr 1; omega) | rfl, by omega, ⟨HX.out.drewN _⟩⟩
              case measure => omega
            · have hs1a : wr.cell? (ad.add j) = some (.string ⟨#[98, 108, 117, 101]⟩) := hs1
              have hs0a : wr.cell? (ad.add 0) = some (.string ⟨#[98, 108, 117, 101]⟩) := hs0
              have hs0b : wr.cell? ad = some (.string ⟨#[98, 108, 117, 101]⟩) := hs0
              clear hs1 hs0
              go_wp2
              go_quiet (fail)
              go_wp2
              go_roundg (x.said.length - j)
              case rel => exact ⟨j + 1, by omega, by first | go_num | (congr 1; omega) | rfl, by omega, ⟨HX.out.drewN _⟩⟩
              case measure => omega
          · have hd3 : decide ((j : Int) < (x.said.length : Int)) = false := decide_eq_false (by omega)
            go_wp2
            go_ret
            exact ⟨rfl, HX.out.Bl⟩

end Go.Proofs.YtnmcknfkmelnbaaDoor.P
