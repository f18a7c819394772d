import Derived.Test.YtdpogggajdfedaaLinkK
import Derived.Outline
import Derived.Laws.BitsAllLaws
import Derived.WalkSpells
import Derived.StillTailTactics
namespace Go.Proofs.Ytdpogggajdfedaa.P
open Go.RowKit Go.Proofs.YtdpogggajdfedaaW.PrintWords Go.Proofs.YtdpogggajdfedaaW.PrintLast Go.Proofs.YtdpogggajdfedaaW.PrintMore
attribute [local go_sem] max2_int min2_int max_two min_two max_three min_three max_four min_four
set_option linter.unusedVariables false
set_option linter.unusedSimpArgs false
def beR.T5 : Bool × List (List Nat × List Nat) := (true, [([], []), ([], []), ([0, 1], [0, 1]), ([], []), ([], []), ([], []), ([2, 3, 4, 5], [2, 3, 4, 5]), ([6], [6]), ([7, 0, 1, 2, 3, 4, 5, 6, 7], [7])])
def beR.B5 : List Nat := [0, 0, 3, 0, 0, 0, 63, 127, 255]
theorem beR.tab5 : rtab .any (opsOf Try.f10 5) = beR.T5 := by kernel_rfl
theorem beR.bits5 : waitsOk beR.T5.2 beR.B5 = true := by kernel_rfl
theorem mk2f (W : World) : (Instr.makeSlice 32 (.int .i64 2) (.int .i64 2)).run Try.prog W = .ok (.slice (some ⟨W.heap.size, 0, none⟩) 2 2) (W.alloc (.cells #[.slice none 0 0, .slice none 0 0] 30)) := by kernel_rfl
theorem mk2s (W : World) : (Instr.makeSlice 33 (.int .i64 2) (.int .i64 2)).run Try.prog W = .ok (.slice (some ⟨W.heap.size, 0, none⟩) 2 2) (W.alloc (.cells #[.slice none 0 0, .slice none 0 0] 36)) := by kernel_rfl
/-- A pair that has heard nothing. -/
def PaM.start : PaM := ⟨fun i => LkS.begin_ (3 + 2 * (i : Int)), fun _ => [], fun _ => [], fun _ => []⟩
def PB.start (gx gl gw gs gt g1 g2 : Nat) : PB := ⟨gx, gl, gw, gs, gt, fun i => if i = 0 then g1 else g2, fun _ => .slice none 0 0, fun _ => .slice none 0 0, fun _ => .slice none 0 0, fun _ => .slice none 0 0, fun _ => 0⟩
/-- What begin makes. -/
def BeginPost (w : World) (e : Ending) (W' : World) : Prop := ∃ B, e = .returned (.pointer (some ⟨B.gx, 0, none⟩)) ∧ PairIs w W' B PaM.start
theorem beginPost {w W : World} {gx gl gw gs gt g1 g2 : Nat} (hX : W.heap[gx]? = some (.cells #[.slice (some ⟨gl, 0, none⟩) 2 2, .slice (some ⟨gw, 0, none⟩) 2 2, .slice (some ⟨gs, 0, none⟩) 2 2, .slice (some ⟨gt, 0, none⟩) 2 2] 35 (0, 0)))
    (hL : W.heap[gl]? = some (.cells #[.pointer (some ⟨g1, 0, none⟩), .pointer (some ⟨g2, 0, none⟩)] 37 (0, 0)))
    (hY : W.heap[gw]? = some (.cells #[.slice none 0 0, .slice none 0 0] 30 (0, 0)))
    (hS : W.heap[gs]? = some (.cells #[.slice none 0 0, .slice none 0 0] 36 (0, 0)))
    (hT : W.heap[gt]? = some (.cells #[.slice none 0 0, .slice none 0 0] 36 (0, 0)))
    (hA : LkIs W w.heap.size g1 (LkS.begin_ 3) (.slice none 0 0)) (hB : LkIs W w.heap.size g2 (LkS.begin_ 5) (.slice none 0 0)) (hb : Below w.heap.size w W) (hne : g1 ≠ g2) (hst : gs ≠ gt)
    (hg : w.heap.size ≤ gx ∧ w.heap.size ≤ gl ∧ w.heap.size ≤ gw ∧ w.heap.size ≤ gs ∧ w.heap.size ≤ gt) : BeginPost w (.returned (.pointer (some ⟨gx, 0, none⟩))) W :=
  ⟨PB.start gx gl gw gs gt g1 g2, rfl, hX, hL, hY, hS, hT, ⟨hA, hB, hb, hne, fun k hk => (by cases hk)⟩, fun _ _ => Kd.R_nil _ _ _ _ _, fun _ _ => Kd.R_nil _ _ _ _ _, fun _ _ => Kd.R_nil _ _ _ _ _, fun _ _ k hk => (by cases hk), fun _ _ k hk => (by cases hk), fun _ _ k hk => (by cases hk), hst, hg⟩
set_option maxHeartbeats 16000000 in
set_option maxRecDepth 100000 in
theorem begin_calls (w : World) : Calls Try.prog 10 #[] w (BeginPost w) := by
  have hmkf := mk2f
  have hmks := mk2s
  go_enter Try.func10, Try.ntmps10
  go_wp2_with (go_at_call 13; refine (new_calls 3 w).mono ?_)
  rintro e W1 ⟨hb1, h | ⟨_, g1, hg1, rfl, hA⟩⟩
  · exact absurd h.1 (by decide)
  have HA1 := Aside0.mk (hA w.heap.size (Nat.le_refl _))
  have HB1 := Aside0.mk hb1
  have HG1 := Aside0.mk hg1
  have HG1L := blk_lt HA1.out.X
  clear hb1 hA hg1
  go_wp2_with (go_at_call 13; refine (new_calls 5 W1).mono ?_)
  rintro e W2 ⟨hb2, h | ⟨_, g2, hg2, rfl, hA⟩⟩
  · exact absurd h.1 (by decide)
  have HA2 := Aside0.mk (hA w.heap.size HB1.out.size)
  have HA1 := Aside0.mk (HA1.out.below hb2)
  have HNE : Aside0 (g1 ≠ g2) := ⟨by
    have h1 := HG1L
    omega⟩
  have HB2 := Aside0.mk (below_step HB1.out hb2)
  clear hb2 hA hg2 HB1 HG1 HG1L
  go_wp2
  refine start_ (n := 9) (S := fun _ => True) (ds := []) (bz 9 0) (by kernel_rfl) rfl rfl trivial (fun hHeld => ?_); refine with_tabW beR.tab5 beR.bits5 (fun HT_ HW_ => ?_)
  have HA1 := Aside0.mk HA1.out.drew
  have HA2 := Aside0.mk HA2.out.drew
  have HB2 := Aside0.mk (below_drew HB2.out)
  generalize World.drew _ = Wd at HA1 HA2 HB2 ⊢
  clear hHeld
  have HBd : Aside0 (Below Wd.heap.size Wd Wd) := ⟨Below.refl _ _⟩
  refine pu_ 0 (some 19) (bz 9 1) HT_.out ?_
  refine pu_ 1 (some 20) (bz 9 3) HT_.out ?_
  refine inv_at [2, 3, 4, 5, 6, 7, 8] (fun a0_ b a w' => ∃ (m2 m3 m4 m5 m6 m7 m8 : Value), a = putSel a0_ b [(2, 21, m2), (3, 22, m3), (4, 23, m4), (5, 24, m5), (6, 25, m6), (7, 26, m7), (8, 0, m8)] ∧ Below Wd.heap.size Wd w' ∧ (b 2 = true → (∃ s, m2 = .slice (some ⟨s, 0, none⟩) 2 2 ∧ Wd.heap.size ≤ s ∧ w'.heap[s]? = some (.cells #[.pointer (some ⟨g1, 0, none⟩), .pointer (some ⟨g2, 0, none⟩)] 37 (0, 0)))) ∧ (b 3 = true → (∃ s, m3 = .slice (some ⟨s, 0, none⟩) 2 2 ∧ Wd.heap.size ≤ s ∧ w'.heap[s]? = some (.cells #[.slice none 0 0, .slice none 0 0] 30 (0, 0)))) ∧ (b 4 = true → (∃ s, m4 = .slice (some ⟨s, 0, none⟩) 2 2 ∧ Wd.heap.size ≤ s ∧ w'.heap[s]? = some (.cells #[.slice none 0 0, .slice none 0 0] 36 (0, 0)))) ∧ (b 5 = true → (∃ s, m5 = .slice (some ⟨s, 0, none⟩) 2 2 ∧ Wd.heap.size ≤ s ∧ w'.heap[s]? = some (.cells #[.slice none 0 0, .slice none 0 0] 36 (0, 0)))) ∧ (b 4 = true → b 5 = true → m4 ≠ m5) ∧ (b 6 = true → m6 = .agg #[m2, m3, m4, m5]) ∧ (b 7 = true → ∃ s, m7 = .pointer (some ⟨s, 0, none⟩) ∧ Wd.heap.size ≤ s ∧ w'.heap[s]? = some (.cells #[m2, m3, m4, m5] 35 (0, 0))) ∧ (b 8 = true → m8 = m7)) HT_.out HW_.out (by kernel_rfl) (by kernel_rfl) ?_ ?_ ?_
  · exact ⟨undef, undef, undef, undef, undef, undef, undef, by simp only [putSel, Bool.false_eq_true, if_false], HBd.out, fun h_ => absurd h_ (by decide), fun h_ => absurd h_ (by decide), fun h_ => absurd h_ (by decide), fun h_ => absurd h_ (by decide), fun h_ _ => absurd h_ (by decide), fun h_ => absurd h_ (by decide), fun h_ => absurd h_ (by decide), fun h_ => absurd h_ (by decide)⟩
  · skip
    refine steps_cons ?_ ?_
    · rintro b a w' ⟨m2, m3, m4, m5, m6, m7, m8, ha, hB, h2, h3, h4, h5, hne, h6, h7, h8⟩ hb_ hon hoff
      refine ⟨_, rfl, fun K hK => ?_⟩
      have e19 : a.tmps[19]? = some (.pointer (some ⟨g1, 0, none⟩)) := by rw [ha]; exact (putSel_off rfl).trans rfl
      have e20 : a.tmps[20]? = some (.pointer (some ⟨g2, 0, none⟩)) := by rw [ha]; exact (putSel_off rfl).trans rfl
      replace ha := Aside0.mk ha
      refine value_ (w1 := w'.alloc (.cells #[.pointer (some ⟨g1, 0, none⟩), .pointer (some ⟨g2, 0, none⟩)] 37)) (v := .slice (some ⟨w'.heap.size, 0, none⟩) 2 2) (by rfl) rfl ?_ ?_
      · go_simp
        try rfl
      exact hK.out _ _ ⟨(.slice (some ⟨w'.heap.size, 0, none⟩) 2 2), m3, m4, m5, m6, m7, m8, (by rw [ha.out]; exact putSel_upk 0 hb_ rfl rfl rfl), below_alloc hB _, fun _ => ⟨_, rfl, hB.size, heap_alloc_new w' _⟩, fun hb => (h3 hb).imp fun s hs => ⟨hs.1, hs.2.1, blk_alloc hs.2.2 _⟩, fun hb => (h4 hb).imp fun s hs => ⟨hs.1, hs.2.1, blk_alloc hs.2.2 _⟩, fun hb => (h5 hb).imp fun s hs => ⟨hs.1, hs.2.1, blk_alloc hs.2.2 _⟩, hne, fun h0_ => absurd ((hoff 6 (by kernel_rfl)).symm.trans h0_) (by decide), fun h0_ => absurd ((hoff 7 (by kernel_rfl)).symm.trans h0_) (by decide), h8⟩
    refine steps_cons ?_ ?_
    · rintro b a w' ⟨m2, m3, m4, m5, m6, m7, m8, ha, hB, h2, h3, h4, h5, hne, h6, h7, h8⟩ hb_ hon hoff
      refine ⟨_, rfl, fun K hK => ?_⟩
      replace ha := Aside0.mk ha
      refine value_ (w1 := w'.alloc (.cells #[.slice none 0 0, .slice none 0 0] 30)) (v := .slice (some ⟨w'.heap.size, 0, none⟩) 2 2) (by rfl) rfl ?_ ?_
      · go_simp
        try rfl
      exact hK.out _ _ ⟨m2, (.slice (some ⟨w'.heap.size, 0, none⟩) 2 2), m4, m5, m6, m7, m8, (by rw [ha.out]; exact putSel_upk 1 hb_ rfl rfl rfl), below_alloc hB _, fun hb => (h2 hb).imp fun s hs => ⟨hs.1, hs.2.1, blk_alloc hs.2.2 _⟩, fun _ => ⟨_, rfl, hB.size, heap_alloc_new w' _⟩, fun hb => (h4 hb).imp fun s hs => ⟨hs.1, hs.2.1, blk_alloc hs.2.2 _⟩, fun hb => (h5 hb).imp fun s hs => ⟨hs.1, hs.2.1, blk_alloc hs.2.2 _⟩, hne, fun h0_ => absurd ((hoff 6 (by kernel_rfl)).symm.trans h0_) (by decide), fun h0_ => absurd ((hoff 7 (by kernel_rfl)).symm.trans h0_) (by decide), h8⟩
    refine steps_cons ?_ ?_
    · rintro b a w' ⟨m2, m3, m4, m5, m6, m7, m8, ha, hB, h2, h3, h4, h5, hne, h6, h7, h8⟩ hb_ hon hoff
      refine ⟨_, rfl, fun K hK => ?_⟩
      replace ha := Aside0.mk ha
      refine value_ (w1 := w'.alloc (.cells #[.slice none 0 0, .slice none 0 0] 36)) (v := .slice (some ⟨w'.heap.size, 0, none⟩) 2 2) (by rfl) rfl ?_ ?_
      · go_simp
        try rfl
      exact hK.out _ _ ⟨m2, m3, (.slice (some ⟨w'.heap.size, 0, none⟩) 2 2), m5, m6, m7, m8, (by rw [ha.out]; exact putSel_upk 2 hb_ rfl rfl rfl), below_alloc hB _, fun hb => (h2 hb).imp fun s hs => ⟨hs.1, hs.2.1, blk_alloc hs.2.2 _⟩, fun hb => (h3 hb).imp fun s hs => ⟨hs.1, hs.2.1, blk_alloc hs.2.2 _⟩, fun _ => ⟨_, rfl, hB.size, heap_alloc_new w' _⟩, fun hb => (h5 hb).imp fun s hs => ⟨hs.1, hs.2.1, blk_alloc hs.2.2 _⟩, fun _ hb e => by obtain ⟨s, hs, _, hs2⟩ := h5 hb; rw [hs] at e; injection e with e; injection e with e; injection e with e; have := blk_lt hs2; omega, fun h0_ => absurd ((hoff 6 (by kernel_rfl)).symm.trans h0_) (by decide), fun h0_ => absurd ((hoff 7 (by kernel_rfl)).symm.trans h0_) (by decide), h8⟩
    refine steps_cons ?_ ?_
    · rintro b a w' ⟨m2, m3, m4, m5, m6, m7, m8, ha, hB, h2, h3, h4, h5, hne, h6, h7, h8⟩ hb_ hon hoff
      refine ⟨_, rfl, fun K hK => ?_⟩
      replace ha := Aside0.mk ha
      refine value_ (w1 := w'.alloc (.cells #[.slice none 0 0, .slice none 0 0] 36)) (v := .slice (some ⟨w'.heap.size, 0, none⟩) 2 2) (by rfl) rfl ?_ ?_
      · go_simp
        try rfl
      exact hK.out _ _ ⟨m2, m3, m4, (.slice (some ⟨w'.heap.size, 0, none⟩) 2 2), m6, m7, m8, (by rw [ha.out]; exact putSel_upk 3 hb_ rfl rfl rfl), below_alloc hB _, fun hb => (h2 hb).imp fun s hs => ⟨hs.1, hs.2.1, blk_alloc hs.2.2 _⟩, fun hb => (h3 hb).imp fun s hs => ⟨hs.1, hs.2.1, blk_alloc hs.2.2 _⟩, fun hb => (h4 hb).imp fun s hs => ⟨hs.1, hs.2.1, blk_alloc hs.2.2 _⟩, fun _ => ⟨_, rfl, hB.size, heap_alloc_new w' _⟩, fun hb _ e => by obtain ⟨s, hs, _, hs2⟩ := h4 hb; rw [hs] at e; injection e with e; injection e with e; injection e with e; have := blk_lt hs2; omega, fun h0_ => absurd ((hoff 6 (by kernel_rfl)).symm.trans h0_) (by decide), fun h0_ => absurd ((hoff 7 (by kernel_rfl)).symm.trans h0_) (by decide), h8⟩
    refine steps_cons ?_ ?_
    · rintro b a w' ⟨m2, m3, m4, m5, m6, m7, m8, ha, hB, h2, h3, h4, h5, hne, h6, h7, h8⟩ hb_ hon hoff
      refine ⟨_, rfl, fun K hK => ?_⟩
      have e21 : a.tmps[21]? = some (m2) := by rw [ha]; exact putSel_on (e := (2, 21, m2)) 0 rfl rfl (hon 2 (by kernel_rfl)) rfl
      have e22 : a.tmps[22]? = some (m3) := by rw [ha]; exact putSel_on (e := (3, 22, m3)) 1 rfl rfl (hon 3 (by kernel_rfl)) rfl
      have e23 : a.tmps[23]? = some (m4) := by rw [ha]; exact putSel_on (e := (4, 23, m4)) 2 rfl rfl (hon 4 (by kernel_rfl)) rfl
      have e24 : a.tmps[24]? = some (m5) := by rw [ha]; exact putSel_on (e := (5, 24, m5)) 3 rfl rfl (hon 5 (by kernel_rfl)) rfl
      obtain ⟨s2, q2, -⟩ := h2 (hon 2 (by kernel_rfl))
      obtain ⟨s3, q3, -⟩ := h3 (hon 3 (by kernel_rfl))
      obtain ⟨s4, q4, -⟩ := h4 (hon 4 (by kernel_rfl))
      obtain ⟨s5, q5, -⟩ := h5 (hon 5 (by kernel_rfl))
      rw [q2] at e21
      rw [q3] at e22
      rw [q4] at e23
      rw [q5] at e24
      replace ha := Aside0.mk ha
      refine value_ (w1 := w') (v := .agg #[.slice (some ⟨s2, 0, none⟩) 2 2, .slice (some ⟨s3, 0, none⟩) 2 2, .slice (some ⟨s4, 0, none⟩) 2 2, .slice (some ⟨s5, 0, none⟩) 2 2]) (by rfl) rfl ?_ ?_
      · go_simp
        try rfl
      exact hK.out _ _ ⟨m2, m3, m4, m5, .agg #[.slice (some ⟨s2, 0, none⟩) 2 2, .slice (some ⟨s3, 0, none⟩) 2 2, .slice (some ⟨s4, 0, none⟩) 2 2, .slice (some ⟨s5, 0, none⟩) 2 2], m7, m8, (by rw [ha.out]; exact putSel_upk 4 hb_ rfl rfl rfl), hB, h2, h3, h4, h5, hne, fun _ => by rw [q2, q3, q4, q5], fun h0_ => absurd ((hoff 7 (by kernel_rfl)).symm.trans h0_) (by decide), h8⟩
    refine steps_cons ?_ ?_
    · rintro b a w' ⟨m2, m3, m4, m5, m6, m7, m8, ha, hB, h2, h3, h4, h5, hne, h6, h7, h8⟩ hb_ hon hoff
      refine ⟨_, rfl, fun K hK => ?_⟩
      have e25 : a.tmps[25]? = some (m6) := by rw [ha]; exact putSel_on (e := (6, 25, m6)) 4 rfl rfl (hon 6 (by kernel_rfl)) rfl
      rw [h6 (hon 6 (by kernel_rfl))] at e25
      replace ha := Aside0.mk ha
      refine box_step ?hg (N := 26) ?hd (cs := #[m2, m3, m4, m5]) (t := 35) ?hr ?_; (case hd => rfl); (case hg => rfl); (case hr => first | (go_simp; done) | (go_simp; rfl))
      intro gx hg w2 hbox hb2
      subst hg
      exact hK.out _ _ ⟨m2, m3, m4, m5, m6, .pointer (some ⟨w'.heap.size, 0, none⟩), m8, (by rw [ha.out]; exact putSel_upk 5 hb_ rfl rfl rfl), below_step hB hb2, fun hb => (h2 hb).imp fun s hs => ⟨hs.1, hs.2.1, blk_below hs.2.2 hb2⟩, fun hb => (h3 hb).imp fun s hs => ⟨hs.1, hs.2.1, blk_below hs.2.2 hb2⟩, fun hb => (h4 hb).imp fun s hs => ⟨hs.1, hs.2.1, blk_below hs.2.2 hb2⟩, fun hb => (h5 hb).imp fun s hs => ⟨hs.1, hs.2.1, blk_below hs.2.2 hb2⟩, hne, h6, fun _ => ⟨_, rfl, hB.size, hbox⟩, fun h0_ => absurd ((hoff 8 (by kernel_rfl)).symm.trans h0_) (by decide)⟩
    refine steps_cons ?_ ?_
    · rintro b a w' ⟨m2, m3, m4, m5, m6, m7, m8, ha, hB, h2, h3, h4, h5, hne, h6, h7, h8⟩ hb_ hon hoff
      refine ⟨_, rfl, fun K hK => ?_⟩
      have e26 : a.tmps[26]? = some (m7) := by rw [ha]; exact putSel_on (e := (7, 26, m7)) 5 rfl rfl (hon 7 (by kernel_rfl)) rfl
      replace ha := Aside0.mk ha
      refine value_ (w1 := w') (v := m7) (by rfl) rfl ?_ ?_
      · go_simp
        try rfl
      exact hK.out _ _ ⟨m2, m3, m4, m5, m6, m7, m7, (by rw [ha.out]; exact putSel_upk 6 hb_ rfl rfl rfl), hB, h2, h3, h4, h5, hne, h6, h7, fun _ => rfl⟩
    exact steps_nil
  rintro b a W3 hall ⟨m2, m3, m4, m5, m6, m7, m8, ha, hB, h2, h3, h4, h5, hne, h6, h7, h8⟩
  have hb2_ := hall 2 (by kernel_rfl)
  have hb3_ := hall 3 (by kernel_rfl)
  have hb4_ := hall 4 (by kernel_rfl)
  have hb5_ := hall 5 (by kernel_rfl)
  have hb6_ := hall 6 (by kernel_rfl)
  have hb7_ := hall 7 (by kernel_rfl)
  have hb8_ := hall 8 (by kernel_rfl)
  subst ha
  have HS4 := Aside0.mk (hne hb4_ hb5_)
  obtain ⟨gl, rfl, hgl, HL⟩ := h2 hb2_
  obtain ⟨gw, rfl, hgw, HY⟩ := h3 hb3_
  obtain ⟨gs, rfl, hgs, HS⟩ := h4 hb4_
  obtain ⟨gt, rfl, hgt, HT⟩ := h5 hb5_
  obtain rfl := h6 hb6_
  obtain ⟨gx, rfl, hgx, HX⟩ := h7 hb7_
  obtain rfl := h8 hb8_
  simp only [putSel, hb2_, hb3_, hb4_, hb5_, hb6_, hb7_, hb8_, if_true, Act.put, sl1, sl2, sl3]
  clear hall hb2_ hb3_ hb4_ hb5_ hb6_ hb7_ hb8_ h2 h3 h4 h5 h6 h7 h8 hne HT_ HW_ HBd
  have HP := Aside0.mk (beginPost HX HL HY HS HT (HA1.out.below hB) (HA2.out.below hB) (below_step HB2.out hB) HNE.out (fun e => HS4.out (by rw [e])) (have h0 := HB2.out.size; ⟨Nat.le_trans h0 hgx, Nat.le_trans h0 hgl, Nat.le_trans h0 hgw, Nat.le_trans h0 hgs, Nat.le_trans h0 hgt⟩))
  clear HX HL HY HS HT hB hgx hgl hgw hgs hgt HS4
  go_wp2
  go_ret
  exact HP.out

end Go.Proofs.Ytdpogggajdfedaa.P
