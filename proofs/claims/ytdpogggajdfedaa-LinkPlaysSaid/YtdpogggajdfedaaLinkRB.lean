import Derived.Test.YtdpogggajdfedaaLinkRA
import Derived.Outline
import Derived.Laws.BitsAllLaws
import Derived.WalkSpells
import Derived.StillTailTactics
namespace Go.Proofs.Ytdpogggajdfedaa.P
open Go.RowKit Go.Proofs.YtdpogggajdfedaaW.PrintWords Go.Proofs.YtdpogggajdfedaaW.PrintLast Go.Proofs.YtdpogggajdfedaaW.PrintMore
attribute [local go_sem] max2_int min2_int max_two min_two max_three min_three max_four min_four
set_option linter.unusedVariables false
set_option linter.unusedSimpArgs false
def roR.T6 : Bool × List (List Nat × List Nat) := (true, [([], []), ([], []), ([1], [1]), ([2], [2]), ([3], [3]), ([], []), ([5], [5]), ([6], [6]), ([7], [7]), ([], []), ([9], [9]), ([10], [10]), ([11], [11]), ([], []), ([12, 13], [12, 13]), ([], []), ([15], [15]), ([16], [16]), ([17], [17]), ([], []), ([19], [19]), ([20], [20]), ([21], [21]), ([], []), ([22, 23], [22, 23]), ([24], [24]), ([4, 8, 14, 18, 25], [4, 8, 14, 18, 25]), ([26], [26]), ([0, 27], [0, 27]), ([28, 28, 0, 1, 2, 3, 4, 5, 6, 7, 8, 9, 10, 11, 12, 13, 14, 15, 16, 17, 18, 19, 20, 21, 22, 23, 24, 25, 26, 27, 28], [0, 28])])
def roR.B6 : List Nat := [0, 0, 2, 6, 14, 0, 32, 96, 224, 0, 512, 1536, 3584, 0, 15872, 0, 32768, 98304, 229376, 0, 524288, 1572864, 3670016, 0, 16252928, 33030144, 67108862, 134217726, 268435455, 536870911]
theorem roR.tab6 : rtab .any (opsOf Try.f22 6) = roR.T6 := by kernel_rfl
theorem roR.bits6 : waitsOk roR.T6.2 roR.B6 = true := by kernel_rfl
def roR.T12 : Bool × List (List Nat × List Nat) := (true, [([], []), ([], []), ([1], [1]), ([2], [2]), ([3], [3]), ([], []), ([5], [5]), ([6], [6]), ([7], [7]), ([], []), ([9], [9]), ([10], [10]), ([11], [11]), ([4, 8, 12], [4, 8, 12]), ([13], [13]), ([0, 14], [0, 14]), ([15, 15, 0, 1, 2, 3, 4, 5, 6, 7, 8, 9, 10, 11, 12, 13, 14, 15], [0, 15])])
def roR.B12 : List Nat := [0, 0, 2, 6, 14, 0, 32, 96, 224, 0, 512, 1536, 3584, 8190, 16382, 32767, 65535]
theorem roR.tab12 : rtab .any (opsOf Try.f22 12) = roR.T12 := by kernel_rfl
theorem roR.bits12 : waitsOk roR.T12.2 roR.B12 = true := by kernel_rfl
theorem RlIs.far {w W W' : World} {b g : Nat} {s s0 : RlS} {V : Value} (h0 : RlIs w b g s0 V) (h : RlIs W b g s V) (ho : Only W W' (fun i => w.heap.size ≤ i)) : RlIs W' b g s V :=
  h.away ho (by have := h0.lt; omega) (fun k hk => by have := Kd.Q_lt h0.R k hk; omega)
theorem RlS.putN_keeps (s : RlS) (k : Nat) : ∀ n, (s.putN k n).epoch = s.epoch ∧ (s.putN k n).peer = s.peer ∧ (s.putN k n).wait = s.wait ∧ (s.putN k n).first = s.first ∧ (s.putN k n).taken = s.taken ∧ (s.putN k n).owes = s.owes
  | 0 => ⟨rfl, rfl, rfl, rfl, rfl, rfl⟩
  | n + 1 => RlS.putN_keeps s k n
theorem RlS.putN_fr (s : RlS) (k n j : Nat) : (s.putN k n).fr j = s.fr j := by
  obtain ⟨a, b, c, d, e, _⟩ := s.putN_keeps k n
  unfold RlS.fr
  rw [a, b, c, d, e]
theorem RlS.frN_len (s : RlS) (k : Nat) : ∀ n, (s.frN k n).length = n
  | 0 => rfl
  | n + 1 => by unfold RlS.frN; rw [List.length_append, s.frN_len k n]; rfl
/-- What always holds, in the midst of Out. -/
structure RlS.Mid (s : RlS) (k : Nat) : Prop where
  o : 0 ≤ s.out ∧ s.out ≤ 8
  d : s.due = k
  t : 0 ≤ s.ticks ∧ s.ticks < 3
theorem RlS.Ok.mid {s : RlS} (h : s.Ok) : ∀ n, s.due.toNat + n ≤ 8 → (s.putN s.due.toNat n).Mid (s.due.toNat + n)
  | 0, _ => ⟨⟨by show 0 ≤ s.out; have := h.d0; have := h.o0; omega, h.o1⟩, by show s.due = _; have := h.d0; omega, ⟨h.k0, h.k1⟩⟩
  | n + 1, hn => by
    obtain ⟨o, d, t⟩ := h.mid n (by omega)
    unfold RlS.putN RlS.put1
    refine ⟨⟨?_, ?_⟩, ?_, ?_⟩
    · show 0 ≤ max (s.putN s.due.toNat n).out _; omega
    · show max (s.putN s.due.toNat n).out (((s.due.toNat + n : Nat) : Int) + 1) ≤ 8; omega
    · show ((s.due.toNat + n : Nat) : Int) + 1 = _; omega
    · show 0 ≤ (if _ then (0 : Int) else _) ∧ (if _ then (0 : Int) else _) < 3
      split <;> omega
def ROutPost (w : World) (b g : Nat) (V : Value) (T : RlS × List FrT) (e : Ending) (w' : World) : Prop :=
  ∃ v, e = .returned v ∧ kF.R 46 w' w.heap.size (fun _ => True) v T.2 ∧ RlIs w' b g T.1 V ∧ LkOnly w w' g V V
theorem rOutPost {w w' : World} {b g : Nat} {V v : Value} {T : RlS × List FrT} {s : RlS} {fs : List FrT} (hT : T = (s, fs)) (hR : kF.R 46 w' w.heap.size (fun _ => True) v fs) (h : RlIs w' b g s V) (ho : LkOnly w w' g V V) : ROutPost w b g V T (.returned v) w' := by
  subst hT
  exact ⟨v, rfl, hR, h, ho⟩
set_option maxHeartbeats 16000000 in
set_option maxRecDepth 100000 in
theorem rout_calls (b g : Nat) (s : RlS) (V : Value) (w : World) (h : RlIs w b g s V) (hs : s.Ok) :
    Calls Try.prog 22 #[.pointer (some ⟨g, 0, none⟩)] w (ROutPost w b g V s.outs) := by
  have H := Aside0.mk h
  have HS := Aside0.mk hs
  obtain ⟨h0, h1, h2, h3, h4, h5, h6, h7, h8⟩ := h.cells
  obtain ⟨T, hT⟩ : ∃ T, s.outs = T := ⟨_, rfl⟩
  rw [hT]
  have HT := Aside0.mk hT
  obtain ⟨A, c, e, hAc⟩ := Kd.Q_slice h.R
  subst e
  obtain ⟨n, hn⟩ : ∃ n, s.wait.length = n := ⟨_, rfl⟩
  have HN := Aside0.mk hn
  rw [hn] at h2 H hAc ⊢
  have hn32 : n ≤ 32 := by rw [← hn]; exact hs.w
  clear h hs hT hn
  by_cases hz : s.peer = 0
  · have hpz : (s.peer != 0) = false := bne_eq_false_iff_eq.mpr hz
    have hm0 : s.many = 0 := by unfold RlS.many; rw [if_pos hz]
    have HT2 : Aside0 (({ s with owes := false }, if ([] : List FrT) = [] ∧ s.owes = true then [⟨s.epoch, s.peer, 0, s.taken, ⟨#[]⟩⟩] else []) = T) := ⟨by rw [← HT.out]; unfold RlS.outs; rw [hm0]; rfl⟩
    have hw0 := H.out.ge
    clear hz hm0 HT
    obtain ⟨sq, hsq⟩ : ∃ sq, s = sq := ⟨_, rfl⟩
    have f7 := H.out.frozen 7
    obtain ⟨oo, hoo⟩ : ∃ oo, s.owes = oo := ⟨_, rfl⟩
    have HOO := Aside0.mk hoo
    rw [hoo] at h7
    clear hoo hsq
    cases oo
    · have HE : Aside0 (T = ({ s with owes := false }, [])) := ⟨by rw [← HT2.out, if_neg (fun h => by rw [HOO.out] at h; cases h.2)]⟩
      go_enter Try.func22, Try.ntmps22
      go_wp2
      go_ret
      exact rOutPost HE.out (Kd.R_nil _ _ _ _ _) (H.out.set1 7 (.bool false) { s with owes := false } rfl rfl) ((LkOnly.refl w g _).set_ 7 _)
    · have HE : Aside0 (T = ({ s with owes := false }, [⟨s.epoch, s.peer, 0, s.taken, ⟨#[]⟩⟩])) := ⟨by rw [← HT2.out, if_pos ⟨rfl, HOO.out⟩]⟩
      have HL := H
      have HO := Aside0.mk (LkOnly.refl w g (.slice A n c))
      have HF : Aside0 (kF.R 46 w w.heap.size (fun _ => True) (.slice none 0 0) []) := ⟨Kd.R_nil _ _ _ _ _⟩
      go_enter Try.func22, Try.ntmps22
      go_wp2
      have HFd : Aside0 (kF.R 46 w.drew w.heap.size (fun _ => True) (.slice none 0 0) []) := ⟨Kd.R_drew HF.out⟩
      have HLd : Aside0 (RlIs w.drew b g s (.slice A n c)) := ⟨HL.out.below (below_drew (Below.refl _ _))⟩
      have HOd : Aside0 (LkOnly w w.drew g (.slice A n c) (.slice A n c)) := ⟨HO.out.below (below_drew (Below.refl _ _))⟩
      have hsz : w.heap.size ≤ w.drew.heap.size := HOd.out.1.size
      refine start_ (n := 17) (S := fun W => RlIs W b g s (.slice A n c)) (ds := []) (bz 17 0) (by kernel_rfl) rfl rfl HLd.out (fun hHeld => ?_); refine with_tabW roR.tab12 roR.bits12 (fun HT_ HW_ => ?_)
      clear h0 h1 h2 h3 h4 h5 h6 h7 h8 f7 HF HL HO
      generalize World.drew _ = WD at hHeld HLd HOd HFd hsz ⊢
      refine pu_ 0 (some 88) (bz 17 1) HT_.out ?_
      refine pu_ 1 (some 89) (bz 17 3) HT_.out ?_
      refine pu_ 2 (some 90) (bz 17 7) HT_.out ?_
      refine pu_ 3 (some 91) (bz 17 15) HT_.out ?_
      refine pu_ 5 (some 93) (bz 17 47) HT_.out ?_
      refine pu_ 6 (some 94) (bz 17 111) HT_.out ?_
      refine pu_ 7 (some 95) (bz 17 239) HT_.out ?_
      refine pu_ 9 (some 97) (bz 17 751) HT_.out ?_
      refine pu_ 10 (some 98) (bz 17 1775) HT_.out ?_
      refine pu_ 11 (some 99) (bz 17 3823) HT_.out ?_
      refine take_ (i := 4) (N := (some 92)) (v := ?_) (a' := ?_) (bz 17 3839) rfl rfl (take_ofW HT_.out HW_.out (by kernel_rfl)) (fun _ _ _ h => h) (Or.inl ⟨by rfl, ?_⟩) hHeld ?_ ?_
      rotate_left
      · rintro w' s0
        obtain ⟨h0, h1, h2, h3, h4, h5, h6, h7, h8⟩ := s0.cells
        go_simp
        with_reducible rfl
      rotate_left
      · simp only [Act.put, sl1, sl2, sl3, i64_w, i32_w]
        rfl
      refine take_ (i := 8) (N := (some 96)) (v := ?_) (a' := ?_) (bz 17 4095) rfl rfl (take_ofW HT_.out HW_.out (by kernel_rfl)) (fun _ _ _ h => h) (Or.inl ⟨by rfl, ?_⟩) hHeld ?_ ?_
      rotate_left
      · rintro w' s0
        obtain ⟨h0, h1, h2, h3, h4, h5, h6, h7, h8⟩ := s0.cells
        go_simp
        with_reducible rfl
      rotate_left
      · simp only [Act.put, sl1, sl2, sl3, i64_w, i32_w]
        rfl
      refine take_ (i := 12) (N := (some 100)) (v := ?_) (a' := ?_) (bz 17 8191) rfl rfl (take_ofW HT_.out HW_.out (by kernel_rfl)) (fun _ _ _ h => h) (Or.inl ⟨by rfl, ?_⟩) hHeld ?_ ?_
      rotate_left
      · rintro w' s0
        obtain ⟨h0, h1, h2, h3, h4, h5, h6, h7, h8⟩ := s0.cells
        go_simp
        with_reducible rfl
      rotate_left
      · simp only [Act.put, sl1, sl2, sl3, i64_w, i32_w]
        rfl
      refine pu_ 13 (some 101) (bz 17 16383) HT_.out ?_
      refine one_ (i := 14) (N := (some 102)) (bz 17 32767) rfl rfl (one_of HT_.out (by kernel_rfl)) (by decide) (fun K hK => ?_)
      refine value_ (w1 := ?_) (v := ?_) (by rfl) rfl ?_ ?_
      rotate_left 2
      · go_simp
        constructor
        · rfl
        · rfl
      refine hK.out _ _ (hHeld.alloc _) (fun hHeld => ?_)
      clear hK K
      refine norm_ (a' := ?_) ?_ ?_
      rotate_left
      · show Act.put _ (some 102) _ = _
        simp only [Act.put, sl1, sl2, sl3, i64_w, i32_w]
        rfl
      refine one_ (i := 15) (N := (some 103)) (bz 17 65535) rfl rfl (one_of HT_.out (by kernel_rfl)) (by decide) (fun K hK => ?_)
      refine Kd.R_append_step kF (w0 := WD) w.heap.size (by rfl) (.tmp 88) (.tmp 102) 30 46 (.agg #[.int .i64 0, .int .i64 0, .int .i64 0, .int .i64 0, .string ⟨#[]⟩]) 48 rfl Try.underlying30 infoF rfl (by decide) (by omega) (.slice none 0 0) [] ⟨s.epoch, s.peer, 0, s.taken, ⟨#[]⟩⟩ [.int .i64 s.epoch, .int .i64 s.peer, .int .i64 0, .int .i64 s.taken, .string ⟨#[]⟩] (fun _ => True) (fun _ => False) rfl rfl ?aP (fun _ hk => hk.elim) ?aF ?aO ?aB ?aS ?aL ?_
      case aP => exact k46_mkM _ _ _ (⟨s.epoch, s.peer, 0, s.taken, ⟨#[]⟩⟩ : FrT)
      case aF => exact (fun _ _ => trivial)
      case aO => exact HFd.out
      case aB => exact Below.refl _ _
      case aS => exact hsz
      case aL => decide
      intro v1 w1 ho hb hg hat
      have hfar := Only.ofGrown (n := w.heap.size) hg (fun k hk => Kd.R_base HFd.out k hk)
      have HL1 := Aside0.mk (RlIs.far H.out HLd.out hfar)
      have HO1 := Aside0.mk (HOd.out.far hfar)
      have HF1 := Aside0.mk ho
      refine hK.out _ _ HL1.out (fun hHeld => ?_)
      clear hK K
      refine norm_ (a' := ?_) ?_ ?_
      rotate_left
      · show Act.put _ (some 103) _ = _
        simp only [Act.put, sl1, sl2, sl3, i64_w, i32_w]
        rfl
      refine pu_ 16 (some 3) (bz 17 131071) HT_.out ?_
      refine done_ (done_of HT_.out (by kernel_rfl)) ?_
      clear HT_ HW_ ho hb hg hat hfar HFd HLd HOd hsz hHeld
      obtain ⟨h0, h1, h2, h3, h4, h5, h6, h7, h8⟩ := HL1.out.cells
      have f7 := HL1.out.frozen 7
      go_wp2
      go_ret
      exact rOutPost HE.out (R_only rfl HF1.out ((Only.refl w1 _).set_ 7 (.bool false)) (fun k hk e => by have := Kd.R_base HF1.out k hk; have := H.out.lt; omega)) (HL1.out.set1 7 (.bool false) { s with owes := false } rfl rfl) (HO1.out.set_ 7 _)
  · have hpz : (s.peer != 0) = true := bne_iff_ne.mpr hz
    obtain ⟨d, hd⟩ : ∃ d, s.due.toNat = d := ⟨_, rfl⟩
    obtain ⟨mm, hmm⟩ : ∃ mm, s.many = mm := ⟨_, rfl⟩
    have hdI : s.due = (d : Int) := by have := HS.out.d0; omega
    have hmd : d + mm = min n 8 := by
      rw [← hmm]
      unfold RlS.many
      rw [if_neg hz, HN.out, hd]
      have := HS.out.o0
      have := HS.out.o1
      have := HS.out.o2
      rw [HN.out] at this
      omega
    have HT2 : Aside0 (({ s.putN d mm with owes := false }, if s.frN d mm = [] ∧ s.owes = true then [⟨s.epoch, s.peer, 0, s.taken, ⟨#[]⟩⟩] else s.frN d mm) = T) := ⟨by rw [← HT.out]; unfold RlS.outs; rw [hmm, hd]⟩
    have HMD : Aside0 (∀ j, d + j ≤ 8 → (s.putN d j).Mid (d + j)) := ⟨fun j hj => by rw [← hd] at hj ⊢; exact HS.out.mid j hj⟩
    rw [hdI] at h5
    clear hz HT hd hmm hdI
    go_enter Try.func22, Try.ntmps22
    go_wp2
    clear h0 h1 h2 h3 h4 h5 h6 h7 h8
    go_loopg [3, 4] (mm + 1) (fun kq v3 v4 W => ∃ (j : Nat), j ≤ mm ∧ v4 = .int .i64 ((d + j : Nat) : Int) ∧ mm - j < kq ∧ Aside0 (RlIs W b g (s.putN d j) (.slice A n c)) ∧ Aside0 (LkOnly w W g (.slice A n c) (.slice A n c)) ∧ Aside0 (kF.R 46 W w.heap.size (fun _ => True) v3 (s.frN d j)))
    case atStart => exact ⟨0, Nat.zero_le _, rfl, by omega, H, ⟨LkOnly.refl _ _ _⟩, ⟨Kd.R_nil _ _ _ _ _⟩⟩
    case round =>
      obtain ⟨j, hj, rfl, hq, HL, HO, HF⟩ := hrel
      obtain ⟨e0, e1, e2, e3, e4, e5⟩ := s.putN_keeps d j
      have HFR : Aside0 ((s.putN d j).fr (d + j) = s.fr (d + j)) := ⟨s.putN_fr d j (d + j)⟩
      have HWT : Aside0 ((s.putN d j).wait.length = n) := ⟨by rw [e2]; exact HN.out⟩
      have HPE := Aside0.mk e1
      have HFI := Aside0.mk e3
      have HOE := Aside0.mk e5
      by_cases hlt : j < mm
      · obtain ⟨hmo, hmd2, hmt⟩ := HMD.out j (by omega)
        have HP1 : Aside0 ((s.putN d j).put1 (d + j) = s.putN d (j + 1)) := ⟨rfl⟩
        have HFE : Aside0 (s.frN d j ++ [s.fr (d + j)] = s.frN d (j + 1)) := ⟨rfl⟩
        have HFL : Aside0 ((s.frN d j).length = j) := ⟨s.frN_len d j⟩
        rw [← HFR.out] at HFE
        clear e0 e1 e2 e3 e4 e5 HFR
        obtain ⟨fs1, hfs1e⟩ : ∃ fs1, fs1 = s.frN d (j + 1) := ⟨_, rfl⟩
        rw [← hfs1e] at HFE
        generalize s.frN d j = fs at HF HFE HFL
        obtain ⟨s1, hs1e⟩ : ∃ s1, s1 = s.putN d (j + 1) := ⟨_, rfl⟩
        rw [← hs1e] at HP1
        have HS1E := Aside0.mk hs1e
        have HFS1E := Aside0.mk hfs1e
        clear hs1e hfs1e
        generalize s.putN d j = sj at HL HWT HPE HOE HFI hmo hmd2 hmt HP1 HFE
        obtain ⟨k, hk⟩ : ∃ k, d + j = k := ⟨_, rfl⟩
        rw [hk] at HP1 HFE hmd2 ⊢
        have hkn : k < n := by omega
        have hk8 : k < 8 := by omega
        have hK := Aside0.mk hk
        clear hk
        obtain ⟨h0, h1, h2, h3, h4, h5, h6, h7, h8⟩ := HL.out.cells
        obtain ⟨Af, cf, ef⟩ := Kd.R_slice HF.out
        rw [HFL.out] at ef
        subst ef
        have hC := (Kd.Q_reads' HL.out.R).2.2
        obtain ⟨ad, e0, hs1⟩ := Kd.at_string hC (k : Int) (by omega) (by rw [HWT.out]; omega)
        rw [show ((k : Int)).toNat = k from rfl] at hs1
        have HWR : Aside0 (wrap64 (sj.first + (k : Int)) = sj.first + (k : Int)) := ⟨by have h1 := HS.out.f0; have h2 := HS.out.f1; have h3 := HFI.out; unfold wrap64; omega⟩
        have HRD : Aside0 (rdOf ByteArray.empty sj.wait (k : Int) = sj.wait.getD k ByteArray.empty) := ⟨rfl⟩
        obtain ⟨st, hst⟩ : ∃ st, rdOf ByteArray.empty sj.wait (k : Int) = st := ⟨_, rfl⟩
        rw [hst] at hs1 HRD
        have HFK : Aside0 (sj.fr k = ⟨sj.epoch, sj.peer, wrap64 (sj.first + (k : Int)), sj.taken, st⟩) := ⟨by unfold RlS.fr; rw [← HRD.out, HWR.out]⟩
        have hsteq := Aside0.mk hst
        clear hst hC
        subst e0
        have hc1 : (k : Int) < (n : Int) := by omega
        have hc2 : (k : Int) < 8 := by omega
        have hc0 : (0 : Int) ≤ (k : Int) := by omega
        have HSTR : Aside0 (∀ W, RlIs W b g sj (.slice (some ad) n c) → W.cell? (ad.add k) = some (.string st)) := ⟨fun W h => by
          obtain ⟨ad2, e1, hs2⟩ := Kd.at_string (Kd.Q_reads' h.R).2.2 (k : Int) (by omega) (by rw [HWT.out]; omega)
          injection e1 with e1
          subst e1
          rw [hsteq.out] at hs2
          exact hs2⟩
        have HFd : Aside0 (kF.R 46 wr.drew w.heap.size (fun _ => True) (.slice Af j cf) fs) := ⟨Kd.R_drew HF.out⟩
        have HLd : Aside0 (RlIs wr.drew b g sj (.slice (some ad) n c)) := ⟨HL.out.below (below_drew (Below.refl _ _))⟩
        have HOd : Aside0 (LkOnly w wr.drew g (.slice (some ad) n c) (.slice (some ad) n c)) := ⟨HO.out.below (below_drew (Below.refl _ _))⟩
        have hsz : w.heap.size ≤ wr.drew.heap.size := HOd.out.1.size
        go_wp2
        refine start_ (n := 30) (S := fun W => RlIs W b g sj (.slice (some ad) n c)) (ds := []) (bz 30 0) (by kernel_rfl) rfl rfl HLd.out (fun hHeld => ?_); refine with_tabW roR.tab6 roR.bits6 (fun HT_ HW_ => ?_)
        clear h0 h1 h2 h3 h4 h5 h6 h7 h8 hs1 HF HL HO
        generalize World.drew _ = WD at hHeld HLd HOd HFd hsz ⊢
        refine pu_ 0 (some 27) (bz 30 1) HT_.out ?_
        refine pu_ 1 (some 28) (bz 30 3) HT_.out ?_
        refine pu_ 2 (some 29) (bz 30 7) HT_.out ?_
        refine pu_ 3 (some 30) (bz 30 15) HT_.out ?_
        refine pu_ 5 (some 32) (bz 30 47) HT_.out ?_
        refine pu_ 6 (some 33) (bz 30 111) HT_.out ?_
        refine pu_ 7 (some 34) (bz 30 239) HT_.out ?_
        refine pu_ 9 (some 36) (bz 30 751) HT_.out ?_
        refine pu_ 10 (some 37) (bz 30 1775) HT_.out ?_
        refine pu_ 11 (some 38) (bz 30 3823) HT_.out ?_
        refine pu_ 13 (some 40) (bz 30 12015) HT_.out ?_
        refine pu_ 15 (some 42) (bz 30 44783) HT_.out ?_
        refine pu_ 16 (some 43) (bz 30 110319) HT_.out ?_
        refine pu_ 17 (some 44) (bz 30 241391) HT_.out ?_
        refine pu_ 19 (some 46) (bz 30 765679) HT_.out ?_
        refine pu_ 20 (some 47) (bz 30 1814255) HT_.out ?_
        refine pu_ 21 (some 48) (bz 30 3911407) HT_.out ?_
        refine pu_ 23 (some 50) (bz 30 12300015) HT_.out ?_
        refine take_ (i := 4) (N := (some 31)) (v := ?_) (a' := ?_) (bz 30 12300031) rfl rfl (take_ofW HT_.out HW_.out (by kernel_rfl)) (fun _ _ _ h => h) (Or.inl ⟨by rfl, ?_⟩) hHeld ?_ ?_
        rotate_left
        · rintro w' s0
          obtain ⟨h0, h1, h2, h3, h4, h5, h6, h7, h8⟩ := s0.cells
          go_simp
          with_reducible rfl
        rotate_left
        · simp only [Act.put, sl1, sl2, sl3, i64_w, i32_w]
          rfl
        refine take_ (i := 8) (N := (some 35)) (v := ?_) (a' := ?_) (bz 30 12300287) rfl rfl (take_ofW HT_.out HW_.out (by kernel_rfl)) (fun _ _ _ h => h) (Or.inl ⟨by rfl, ?_⟩) hHeld ?_ ?_
        rotate_left
        · rintro w' s0
          obtain ⟨h0, h1, h2, h3, h4, h5, h6, h7, h8⟩ := s0.cells
          go_simp
          with_reducible rfl
        rotate_left
        · simp only [Act.put, sl1, sl2, sl3, i64_w, i32_w]
          rfl
        refine take_ (i := 12) (N := (some 39)) (v := ?_) (a' := ?_) (bz 30 12304383) rfl rfl (take_ofW HT_.out HW_.out (by kernel_rfl)) (fun _ _ _ h => h) (Or.inl ⟨by rfl, ?_⟩) hHeld ?_ ?_
        rotate_left
        · rintro w' s0
          obtain ⟨h0, h1, h2, h3, h4, h5, h6, h7, h8⟩ := s0.cells
          go_simp
          with_reducible rfl
        rotate_left
        · simp only [Act.put, sl1, sl2, sl3, i64_w, i32_w]
          rfl
        refine pu_ 14 (some 41) (bz 30 12320767) HT_.out ?_
        refine take_ (i := 18) (N := (some 45)) (v := ?_) (a' := ?_) (bz 30 12582911) rfl rfl (take_ofW HT_.out HW_.out (by kernel_rfl)) (fun _ _ _ h => h) (Or.inl ⟨by rfl, ?_⟩) hHeld ?_ ?_
        rotate_left
        · rintro w' s0
          obtain ⟨h0, h1, h2, h3, h4, h5, h6, h7, h8⟩ := s0.cells
          go_simp
          with_reducible rfl
        rotate_left
        · simp only [Act.put, sl1, sl2, sl3, i64_w, i32_w]
          rfl
        refine take_ (i := 22) (N := (some 49)) (v := ?_) (a' := ?_) (bz 30 16777215) rfl rfl (take_ofW HT_.out HW_.out (by kernel_rfl)) (fun _ _ _ h => h) (Or.inl ⟨by rfl, ?_⟩) hHeld ?_ ?_
        rotate_left
        · rintro w' s0
          obtain ⟨h0, h1, h2, h3, h4, h5, h6, h7, h8⟩ := s0.cells
          go_simp
          with_reducible rfl
        rotate_left
        · simp only [Act.put, sl1, sl2, sl3, i64_w, i32_w]
          rfl
        refine pu_ 24 (some 51) (bz 30 33554431) HT_.out ?_
        refine take_ (i := 25) (N := (some 52)) (v := ?_) (a' := ?_) (bz 30 67108863) rfl rfl (take_ofW HT_.out HW_.out (by kernel_rfl)) (fun _ _ _ h => h) (Or.inl ⟨by rfl, ?_⟩) hHeld ?_ ?_
        rotate_left
        · rintro w' s0
          have hs1 := HSTR.out _ s0
          go_simp
          with_reducible rfl
        rotate_left
        · simp only [Act.put, sl1, sl2, sl3, i64_w, i32_w]
          rfl
        refine pu_ 26 (some 53) (bz 30 134217727) HT_.out ?_
        refine one_ (i := 27) (N := (some 54)) (bz 30 268435455) rfl rfl (one_of HT_.out (by kernel_rfl)) (by decide) (fun K hK => ?_)
        refine value_ (w1 := ?_) (v := ?_) (by rfl) rfl ?_ ?_
        rotate_left 2
        · go_simp
          constructor
          · rfl
          · rfl
        refine hK.out _ _ (hHeld.alloc _) (fun hHeld => ?_)
        clear hK K
        refine norm_ (a' := ?_) ?_ ?_
        rotate_left
        · show Act.put _ (some 54) _ = _
          simp only [Act.put, sl1, sl2, sl3, i64_w, i32_w]
          rfl
        refine one_ (i := 28) (N := (some 55)) (bz 30 536870911) rfl rfl (one_of HT_.out (by kernel_rfl)) (by decide) (fun K hK => ?_)
        refine Kd.R_append_step kF (w0 := WD) w.heap.size (by rfl) (.tmp 27) (.tmp 54) 30 46 (.agg #[.int .i64 0, .int .i64 0, .int .i64 0, .int .i64 0, .string ⟨#[]⟩]) 48 rfl Try.underlying30 infoF rfl (by decide) (by omega) (.slice Af j cf) fs ⟨sj.epoch, sj.peer, wrap64 (sj.first + (k : Int)), sj.taken, st⟩ [.int .i64 sj.epoch, .int .i64 sj.peer, .int .i64 (wrap64 (sj.first + (k : Int))), .int .i64 sj.taken, .string st] (fun _ => True) (fun _ => False) rfl rfl ?aP (fun _ hk => hk.elim) ?aF ?aO ?aB ?aS ?aL ?_
        case aP => exact k46_mkM _ _ _ (⟨sj.epoch, sj.peer, wrap64 (sj.first + (k : Int)), sj.taken, st⟩ : FrT)
        case aF => exact (fun _ _ => trivial)
        case aO => exact HFd.out
        case aB => exact Below.refl _ _
        case aS => exact hsz
        case aL => rw [HFL.out]; omega
        intro v1 w1 ho hb hg hat
        have hfar := Only.ofGrown (n := w.heap.size) hg (fun k hk => Kd.R_base HFd.out k hk)
        have HL1 := Aside0.mk (RlIs.far H.out HLd.out hfar)
        have HO1 := Aside0.mk (HOd.out.far hfar)
        have HF1 := Aside0.mk ho
        refine hK.out _ _ HL1.out (fun hHeld => ?_)
        clear hK K
        refine norm_ (a' := ?_) ?_ ?_
        rotate_left
        · show Act.put _ (some 55) _ = _
          simp only [Act.put, sl1, sl2, sl3, i64_w, i32_w]
          rfl
        refine pu_ 29 (some 3) (bz 30 1073741823) HT_.out ?_
        refine done_ (done_of HT_.out (by kernel_rfl)) ?_
        clear HT_ HW_ hb hg hat hfar HFd HLd HOd hsz hHeld
        clear ho
        have hoff : ∀ kk, v1.ownBlock = some kk → ¬ kk = g := fun kk hk e => by have := Kd.R_base HF1.out kk hk; have := H.out.lt; omega
        obtain ⟨h0, h1, h2, h3, h4, h5, h6, h7, h8⟩ := HL1.out.cells
        have f4 := HL1.out.frozen 4
        have f5 := HL1.out.frozen 5
        have f8 := HL1.out.frozen 8
        by_cases hoz : sj.out = 0
        · have hmx : sj.out < (k : Int) + 1 := by omega
          have q1 : (sj.out == 0) = true := beq_iff_eq.mpr hoz
          have hmv : max sj.out ((k : Int) + 1) = ((k : Int) + 1) := by omega
          have hmx2 : (sj.out < (k : Int) + 1) = True := eq_true hmx
          have HE : Aside0 (s1 = { sj with ticks := 0, out := ((k : Int) + 1), due := (k : Int) + 1 }) := ⟨by rw [← HP1.out]; unfold RlS.put1; rw [if_pos hoz, hmv]⟩
          have HLn := Aside0.mk (((HL1.out.set1 8 (.int .i64 0) { sj with ticks := 0 } rfl rfl).set1 4 (.int .i64 ((k : Int) + 1)) { sj with ticks := 0, out := ((k : Int) + 1) } rfl rfl).set1 5 (.int .i64 ((k : Int) + 1)) { sj with ticks := 0, out := ((k : Int) + 1), due := (k : Int) + 1 } rfl rfl)
          have HOn := Aside0.mk (((HO1.out.set_ 8 (.int .i64 0)).set_ 4 (.int .i64 ((k : Int) + 1))).set_ 5 (.int .i64 ((k : Int) + 1)))
          have HFn := Aside0.mk (R_only rfl (R_only rfl (R_only rfl HF1.out ((Only.refl _ _).set_ 8 (.int .i64 0)) hoff) ((Only.refl _ _).set_ 4 (.int .i64 ((k : Int) + 1))) hoff) ((Only.refl _ _).set_ 5 (.int .i64 ((k : Int) + 1))) hoff)
          rw [← HE.out, HS1E.out] at HLn
          rw [← HFK.out, HFE.out, HFS1E.out] at HFn
          clear hoz HL1 HO1 HF1 hoff HE hmv hmx
          go_wp2
          go_roundg (mm - j)
          case rel => exact ⟨j + 1, by omega, by have := hK.out; first | (congr 1; omega) | go_num | rfl, by omega, HLn, HOn, HFn⟩
          case measure => omega
        · by_cases hmx : sj.out < (k : Int) + 1
          · skip
            have q1 : (sj.out == 0) = false := beq_eq_false_iff_ne.mpr hoz
            have hmv : max sj.out ((k : Int) + 1) = ((k : Int) + 1) := by omega
            have hmx2 : (sj.out < (k : Int) + 1) = True := eq_true hmx
            have HE : Aside0 (s1 = { sj with ticks := sj.ticks, out := ((k : Int) + 1), due := (k : Int) + 1 }) := ⟨by rw [← HP1.out]; unfold RlS.put1; rw [if_neg hoz, hmv]⟩
            have HLn := Aside0.mk ((HL1.out.set1 4 (.int .i64 ((k : Int) + 1)) { sj with ticks := sj.ticks, out := ((k : Int) + 1) } rfl rfl).set1 5 (.int .i64 ((k : Int) + 1)) { sj with ticks := sj.ticks, out := ((k : Int) + 1), due := (k : Int) + 1 } rfl rfl)
            have HOn := Aside0.mk ((HO1.out.set_ 4 (.int .i64 ((k : Int) + 1))).set_ 5 (.int .i64 ((k : Int) + 1)))
            have HFn := Aside0.mk (R_only rfl (R_only rfl HF1.out ((Only.refl _ _).set_ 4 (.int .i64 ((k : Int) + 1))) hoff) ((Only.refl _ _).set_ 5 (.int .i64 ((k : Int) + 1))) hoff)
            rw [← HE.out, HS1E.out] at HLn
            rw [← HFK.out, HFE.out, HFS1E.out] at HFn
            clear hoz HL1 HO1 HF1 hoff HE hmv hmx
            go_wp2
            go_roundg (mm - j)
            case rel => exact ⟨j + 1, by omega, by have := hK.out; first | (congr 1; omega) | go_num | rfl, by omega, HLn, HOn, HFn⟩
            case measure => omega
          · skip
            have q1 : (sj.out == 0) = false := beq_eq_false_iff_ne.mpr hoz
            have hmv : max sj.out ((k : Int) + 1) = sj.out := by omega
            have hmx2 : (sj.out < (k : Int) + 1) = False := eq_false hmx
            have HE : Aside0 (s1 = { sj with ticks := sj.ticks, out := sj.out, due := (k : Int) + 1 }) := ⟨by rw [← HP1.out]; unfold RlS.put1; rw [if_neg hoz, hmv]⟩
            have HLn := Aside0.mk ((HL1.out.set1 4 (.int .i64 sj.out) { sj with ticks := sj.ticks, out := sj.out } rfl rfl).set1 5 (.int .i64 ((k : Int) + 1)) { sj with ticks := sj.ticks, out := sj.out, due := (k : Int) + 1 } rfl rfl)
            have HOn := Aside0.mk ((HO1.out.set_ 4 (.int .i64 sj.out)).set_ 5 (.int .i64 ((k : Int) + 1)))
            have HFn := Aside0.mk (R_only rfl (R_only rfl HF1.out ((Only.refl _ _).set_ 4 (.int .i64 sj.out)) hoff) ((Only.refl _ _).set_ 5 (.int .i64 ((k : Int) + 1))) hoff)
            rw [← HE.out, HS1E.out] at HLn
            rw [← HFK.out, HFE.out, HFS1E.out] at HFn
            clear hoz HL1 HO1 HF1 hoff HE hmv hmx
            go_wp2
            go_roundg (mm - j)
            case rel => exact ⟨j + 1, by omega, by have := hK.out; first | (congr 1; omega) | go_num | rfl, by omega, HLn, HOn, HFn⟩
            case measure => omega
      · obtain rfl : j = mm := by omega
        have HT3 : Aside0 (({ s.putN d j with owes := false }, if s.frN d j = [] ∧ (s.putN d j).owes = true then [⟨(s.putN d j).epoch, (s.putN d j).peer, 0, (s.putN d j).taken, ⟨#[]⟩⟩] else s.frN d j) = T) := ⟨by have h := HT2.out; simp only [e0, e1, e4, e5] at h ⊢; exact h⟩
        clear HT2 HFR HMD HPE HFI HOE e0 e1 e2 e3 e4 e5
        have HT2 := HT3
        clear HT3
        generalize s.putN d j = sq at HL HT2 HWT
        generalize s.frN d j = fs at HF HT2
        obtain ⟨k, hk⟩ : ∃ k, d + j = k := ⟨_, rfl⟩
        rw [hk] at hmd ⊢
        clear hk hq hlt
        by_cases hn8 : n ≤ 8
        · have hc1 : decide ((k : Int) < (n : Int)) = false := decide_eq_false (by omega)
          have hkn : n ≤ k := by omega
          clear hn8 hmd
          obtain ⟨Af, cf, ef⟩ := Kd.R_slice HF.out
          obtain ⟨m, hm⟩ : ∃ m, fs.length = m := ⟨_, rfl⟩
          rw [hm] at ef
          subst ef
          have HM := Aside0.mk hm
          clear hm
          obtain ⟨h0, h1, h2, h3, h4, h5, h6, h7, h8⟩ := HL.out.cells
          have f7 := HL.out.frozen 7
          obtain ⟨oo, hoo⟩ : ∃ oo, sq.owes = oo := ⟨_, rfl⟩
          have HOO := Aside0.mk hoo
          rw [hoo] at h7
          clear hoo
          by_cases hm0 : m = 0
          · subst hm0
            cases oo
            · have HE : Aside0 (T = ({ sq with owes := false }, fs)) := ⟨by rw [← HT2.out, if_neg (fun h => by rw [HOO.out] at h; cases h.2)]⟩
              go_wp2
              go_ret
              exact rOutPost HE.out (R_only rfl HF.out ((Only.refl wr _).set_ 7 (.bool false)) (fun k hk e => by have := Kd.R_base HF.out k hk; have := H.out.lt; omega)) (HL.out.set1 7 (.bool false) { sq with owes := false } rfl rfl) (HO.out.set_ 7 _)
            · have hfs : fs = [] := List.eq_nil_of_length_eq_zero HM.out
              have HE : Aside0 (T = ({ sq with owes := false }, [⟨sq.epoch, sq.peer, 0, sq.taken, ⟨#[]⟩⟩])) := ⟨by rw [← HT2.out, if_pos ⟨hfs, HOO.out⟩]⟩
              rw [hfs] at HF
              clear hfs HM
              go_wp2
              have HFd : Aside0 (kF.R 46 wr.drew w.heap.size (fun _ => True) (.slice Af 0 cf) []) := ⟨Kd.R_drew HF.out⟩
              have HLd : Aside0 (RlIs wr.drew b g sq (.slice A n c)) := ⟨HL.out.below (below_drew (Below.refl _ _))⟩
              have HOd : Aside0 (LkOnly w wr.drew g (.slice A n c) (.slice A n c)) := ⟨HO.out.below (below_drew (Below.refl _ _))⟩
              have hsz : w.heap.size ≤ wr.drew.heap.size := HOd.out.1.size
              refine start_ (n := 17) (S := fun W => RlIs W b g sq (.slice A n c)) (ds := []) (bz 17 0) (by kernel_rfl) rfl rfl HLd.out (fun hHeld => ?_); refine with_tabW roR.tab12 roR.bits12 (fun HT_ HW_ => ?_)
              clear h0 h1 h2 h3 h4 h5 h6 h7 h8 f7 HF HL HO
              generalize World.drew _ = WD at hHeld HLd HOd HFd hsz ⊢
              refine pu_ 0 (some 88) (bz 17 1) HT_.out ?_
              refine pu_ 1 (some 89) (bz 17 3) HT_.out ?_
              refine pu_ 2 (some 90) (bz 17 7) HT_.out ?_
              refine pu_ 3 (some 91) (bz 17 15) HT_.out ?_
              refine pu_ 5 (some 93) (bz 17 47) HT_.out ?_
              refine pu_ 6 (some 94) (bz 17 111) HT_.out ?_
              refine pu_ 7 (some 95) (bz 17 239) HT_.out ?_
              refine pu_ 9 (some 97) (bz 17 751) HT_.out ?_
              refine pu_ 10 (some 98) (bz 17 1775) HT_.out ?_
              refine pu_ 11 (some 99) (bz 17 3823) HT_.out ?_
              refine take_ (i := 4) (N := (some 92)) (v := ?_) (a' := ?_) (bz 17 3839) rfl rfl (take_ofW HT_.out HW_.out (by kernel_rfl)) (fun _ _ _ h => h) (Or.inl ⟨by rfl, ?_⟩) hHeld ?_ ?_
              rotate_left
              · rintro w' s0
                obtain ⟨h0, h1, h2, h3, h4, h5, h6, h7, h8⟩ := s0.cells
                go_simp
                with_reducible rfl
              rotate_left
              · simp only [Act.put, sl1, sl2, sl3, i64_w, i32_w]
                rfl
              refine take_ (i := 8) (N := (some 96)) (v := ?_) (a' := ?_) (bz 17 4095) rfl rfl (take_ofW HT_.out HW_.out (by kernel_rfl)) (fun _ _ _ h => h) (Or.inl ⟨by rfl, ?_⟩) hHeld ?_ ?_
              rotate_left
              · rintro w' s0
                obtain ⟨h0, h1, h2, h3, h4, h5, h6, h7, h8⟩ := s0.cells
                go_simp
                with_reducible rfl
              rotate_left
              · simp only [Act.put, sl1, sl2, sl3, i64_w, i32_w]
                rfl
              refine take_ (i := 12) (N := (some 100)) (v := ?_) (a' := ?_) (bz 17 8191) rfl rfl (take_ofW HT_.out HW_.out (by kernel_rfl)) (fun _ _ _ h => h) (Or.inl ⟨by rfl, ?_⟩) hHeld ?_ ?_
              rotate_left
              · rintro w' s0
                obtain ⟨h0, h1, h2, h3, h4, h5, h6, h7, h8⟩ := s0.cells
                go_simp
                with_reducible rfl
              rotate_left
              · simp only [Act.put, sl1, sl2, sl3, i64_w, i32_w]
                rfl
              refine pu_ 13 (some 101) (bz 17 16383) HT_.out ?_
              refine one_ (i := 14) (N := (some 102)) (bz 17 32767) rfl rfl (one_of HT_.out (by kernel_rfl)) (by decide) (fun K hK => ?_)
              refine value_ (w1 := ?_) (v := ?_) (by rfl) rfl ?_ ?_
              rotate_left 2
              · go_simp
                constructor
                · rfl
                · rfl
              refine hK.out _ _ (hHeld.alloc _) (fun hHeld => ?_)
              clear hK K
              refine norm_ (a' := ?_) ?_ ?_
              rotate_left
              · show Act.put _ (some 102) _ = _
                simp only [Act.put, sl1, sl2, sl3, i64_w, i32_w]
                rfl
              refine one_ (i := 15) (N := (some 103)) (bz 17 65535) rfl rfl (one_of HT_.out (by kernel_rfl)) (by decide) (fun K hK => ?_)
              refine Kd.R_append_step kF (w0 := WD) w.heap.size (by rfl) (.tmp 88) (.tmp 102) 30 46 (.agg #[.int .i64 0, .int .i64 0, .int .i64 0, .int .i64 0, .string ⟨#[]⟩]) 48 rfl Try.underlying30 infoF rfl (by decide) (by omega) (.slice Af 0 cf) [] ⟨sq.epoch, sq.peer, 0, sq.taken, ⟨#[]⟩⟩ [.int .i64 sq.epoch, .int .i64 sq.peer, .int .i64 0, .int .i64 sq.taken, .string ⟨#[]⟩] (fun _ => True) (fun _ => False) rfl rfl ?aP (fun _ hk => hk.elim) ?aF ?aO ?aB ?aS ?aL ?_
              case aP => exact k46_mkM _ _ _ (⟨sq.epoch, sq.peer, 0, sq.taken, ⟨#[]⟩⟩ : FrT)
              case aF => exact (fun _ _ => trivial)
              case aO => exact HFd.out
              case aB => exact Below.refl _ _
              case aS => exact hsz
              case aL => decide
              intro v1 w1 ho hb hg hat
              have hfar := Only.ofGrown (n := w.heap.size) hg (fun k hk => Kd.R_base HFd.out k hk)
              have HL1 := Aside0.mk (RlIs.far H.out HLd.out hfar)
              have HO1 := Aside0.mk (HOd.out.far hfar)
              have HF1 := Aside0.mk ho
              refine hK.out _ _ HL1.out (fun hHeld => ?_)
              clear hK K
              refine norm_ (a' := ?_) ?_ ?_
              rotate_left
              · show Act.put _ (some 103) _ = _
                simp only [Act.put, sl1, sl2, sl3, i64_w, i32_w]
                rfl
              refine pu_ 16 (some 3) (bz 17 131071) HT_.out ?_
              refine done_ (done_of HT_.out (by kernel_rfl)) ?_
              clear HT_ HW_ ho hb hg hat hfar HFd HLd HOd hsz hHeld
              obtain ⟨h0, h1, h2, h3, h4, h5, h6, h7, h8⟩ := HL1.out.cells
              have f7 := HL1.out.frozen 7
              go_wp2
              go_ret
              exact rOutPost HE.out (R_only rfl HF1.out ((Only.refl w1 _).set_ 7 (.bool false)) (fun k hk e => by have := Kd.R_base HF1.out k hk; have := H.out.lt; omega)) (HL1.out.set1 7 (.bool false) { sq with owes := false } rfl rfl) (HO1.out.set_ 7 _)
          · have hne : fs ≠ [] := fun e => hm0 (by rw [← HM.out, e]; rfl)
            have HE : Aside0 (T = ({ sq with owes := false }, fs)) := ⟨by rw [← HT2.out, if_neg (fun h => hne h.1)]⟩
            have hmz : ((m : Int) == 0) = false := beq_eq_false_iff_ne.mpr (by omega)
            clear hne
            go_wp2
            go_ret
            exact rOutPost HE.out (R_only rfl HF.out ((Only.refl wr _).set_ 7 (.bool false)) (fun k hk e => by have := Kd.R_base HF.out k hk; have := H.out.lt; omega)) (HL.out.set1 7 (.bool false) { sq with owes := false } rfl rfl) (HO.out.set_ 7 _)
        · have hc1 : decide ((k : Int) < (n : Int)) = true := decide_eq_true (by omega)
          have hc2 : decide ((k : Int) < 8) = false := decide_eq_false (by omega)
          have hkn : k < n := by omega
          have hk8 : 8 ≤ k := by omega
          clear hn8 hmd
          obtain ⟨Af, cf, ef⟩ := Kd.R_slice HF.out
          obtain ⟨m, hm⟩ : ∃ m, fs.length = m := ⟨_, rfl⟩
          rw [hm] at ef
          subst ef
          have HM := Aside0.mk hm
          clear hm
          obtain ⟨h0, h1, h2, h3, h4, h5, h6, h7, h8⟩ := HL.out.cells
          have f7 := HL.out.frozen 7
          obtain ⟨oo, hoo⟩ : ∃ oo, sq.owes = oo := ⟨_, rfl⟩
          have HOO := Aside0.mk hoo
          rw [hoo] at h7
          clear hoo
          by_cases hm0 : m = 0
          · subst hm0
            cases oo
            · have HE : Aside0 (T = ({ sq with owes := false }, fs)) := ⟨by rw [← HT2.out, if_neg (fun h => by rw [HOO.out] at h; cases h.2)]⟩
              go_wp2
              go_ret
              exact rOutPost HE.out (R_only rfl HF.out ((Only.refl wr _).set_ 7 (.bool false)) (fun k hk e => by have := Kd.R_base HF.out k hk; have := H.out.lt; omega)) (HL.out.set1 7 (.bool false) { sq with owes := false } rfl rfl) (HO.out.set_ 7 _)
            · have hfs : fs = [] := List.eq_nil_of_length_eq_zero HM.out
              have HE : Aside0 (T = ({ sq with owes := false }, [⟨sq.epoch, sq.peer, 0, sq.taken, ⟨#[]⟩⟩])) := ⟨by rw [← HT2.out, if_pos ⟨hfs, HOO.out⟩]⟩
              rw [hfs] at HF
              clear hfs HM
              go_wp2
              have HFd : Aside0 (kF.R 46 wr.drew w.heap.size (fun _ => True) (.slice Af 0 cf) []) := ⟨Kd.R_drew HF.out⟩
              have HLd : Aside0 (RlIs wr.drew b g sq (.slice A n c)) := ⟨HL.out.below (below_drew (Below.refl _ _))⟩
              have HOd : Aside0 (LkOnly w wr.drew g (.slice A n c) (.slice A n c)) := ⟨HO.out.below (below_drew (Below.refl _ _))⟩
              have hsz : w.heap.size ≤ wr.drew.heap.size := HOd.out.1.size
              refine start_ (n := 17) (S := fun W => RlIs W b g sq (.slice A n c)) (ds := []) (bz 17 0) (by kernel_rfl) rfl rfl HLd.out (fun hHeld => ?_); refine with_tabW roR.tab12 roR.bits12 (fun HT_ HW_ => ?_)
              clear h0 h1 h2 h3 h4 h5 h6 h7 h8 f7 HF HL HO
              generalize World.drew _ = WD at hHeld HLd HOd HFd hsz ⊢
              refine pu_ 0 (some 88) (bz 17 1) HT_.out ?_
              refine pu_ 1 (some 89) (bz 17 3) HT_.out ?_
              refine pu_ 2 (some 90) (bz 17 7) HT_.out ?_
              refine pu_ 3 (some 91) (bz 17 15) HT_.out ?_
              refine pu_ 5 (some 93) (bz 17 47) HT_.out ?_
              refine pu_ 6 (some 94) (bz 17 111) HT_.out ?_
              refine pu_ 7 (some 95) (bz 17 239) HT_.out ?_
              refine pu_ 9 (some 97) (bz 17 751) HT_.out ?_
              refine pu_ 10 (some 98) (bz 17 1775) HT_.out ?_
              refine pu_ 11 (some 99) (bz 17 3823) HT_.out ?_
              refine take_ (i := 4) (N := (some 92)) (v := ?_) (a' := ?_) (bz 17 3839) rfl rfl (take_ofW HT_.out HW_.out (by kernel_rfl)) (fun _ _ _ h => h) (Or.inl ⟨by rfl, ?_⟩) hHeld ?_ ?_
              rotate_left
              · rintro w' s0
                obtain ⟨h0, h1, h2, h3, h4, h5, h6, h7, h8⟩ := s0.cells
                go_simp
                with_reducible rfl
              rotate_left
              · simp only [Act.put, sl1, sl2, sl3, i64_w, i32_w]
                rfl
              refine take_ (i := 8) (N := (some 96)) (v := ?_) (a' := ?_) (bz 17 4095) rfl rfl (take_ofW HT_.out HW_.out (by kernel_rfl)) (fun _ _ _ h => h) (Or.inl ⟨by rfl, ?_⟩) hHeld ?_ ?_
              rotate_left
              · rintro w' s0
                obtain ⟨h0, h1, h2, h3, h4, h5, h6, h7, h8⟩ := s0.cells
                go_simp
                with_reducible rfl
              rotate_left
              · simp only [Act.put, sl1, sl2, sl3, i64_w, i32_w]
                rfl
              refine take_ (i := 12) (N := (some 100)) (v := ?_) (a' := ?_) (bz 17 8191) rfl rfl (take_ofW HT_.out HW_.out (by kernel_rfl)) (fun _ _ _ h => h) (Or.inl ⟨by rfl, ?_⟩) hHeld ?_ ?_
              rotate_left
              · rintro w' s0
                obtain ⟨h0, h1, h2, h3, h4, h5, h6, h7, h8⟩ := s0.cells
                go_simp
                with_reducible rfl
              rotate_left
              · simp only [Act.put, sl1, sl2, sl3, i64_w, i32_w]
                rfl
              refine pu_ 13 (some 101) (bz 17 16383) HT_.out ?_
              refine one_ (i := 14) (N := (some 102)) (bz 17 32767) rfl rfl (one_of HT_.out (by kernel_rfl)) (by decide) (fun K hK => ?_)
              refine value_ (w1 := ?_) (v := ?_) (by rfl) rfl ?_ ?_
              rotate_left 2
              · go_simp
                constructor
                · rfl
                · rfl
              refine hK.out _ _ (hHeld.alloc _) (fun hHeld => ?_)
              clear hK K
              refine norm_ (a' := ?_) ?_ ?_
              rotate_left
              · show Act.put _ (some 102) _ = _
                simp only [Act.put, sl1, sl2, sl3, i64_w, i32_w]
                rfl
              refine one_ (i := 15) (N := (some 103)) (bz 17 65535) rfl rfl (one_of HT_.out (by kernel_rfl)) (by decide) (fun K hK => ?_)
              refine Kd.R_append_step kF (w0 := WD) w.heap.size (by rfl) (.tmp 88) (.tmp 102) 30 46 (.agg #[.int .i64 0, .int .i64 0, .int .i64 0, .int .i64 0, .string ⟨#[]⟩]) 48 rfl Try.underlying30 infoF rfl (by decide) (by omega) (.slice Af 0 cf) [] ⟨sq.epoch, sq.peer, 0, sq.taken, ⟨#[]⟩⟩ [.int .i64 sq.epoch, .int .i64 sq.peer, .int .i64 0, .int .i64 sq.taken, .string ⟨#[]⟩] (fun _ => True) (fun _ => False) rfl rfl ?aP (fun _ hk => hk.elim) ?aF ?aO ?aB ?aS ?aL ?_
              case aP => exact k46_mkM _ _ _ (⟨sq.epoch, sq.peer, 0, sq.taken, ⟨#[]⟩⟩ : FrT)
              case aF => exact (fun _ _ => trivial)
              case aO => exact HFd.out
              case aB => exact Below.refl _ _
              case aS => exact hsz
              case aL => decide
              intro v1 w1 ho hb hg hat
              have hfar := Only.ofGrown (n := w.heap.size) hg (fun k hk => Kd.R_base HFd.out k hk)
              have HL1 := Aside0.mk (RlIs.far H.out HLd.out hfar)
              have HO1 := Aside0.mk (HOd.out.far hfar)
              have HF1 := Aside0.mk ho
              refine hK.out _ _ HL1.out (fun hHeld => ?_)
              clear hK K
              refine norm_ (a' := ?_) ?_ ?_
              rotate_left
              · show Act.put _ (some 103) _ = _
                simp only [Act.put, sl1, sl2, sl3, i64_w, i32_w]
                rfl
              refine pu_ 16 (some 3) (bz 17 131071) HT_.out ?_
              refine done_ (done_of HT_.out (by kernel_rfl)) ?_
              clear HT_ HW_ ho hb hg hat hfar HFd HLd HOd hsz hHeld
              obtain ⟨h0, h1, h2, h3, h4, h5, h6, h7, h8⟩ := HL1.out.cells
              have f7 := HL1.out.frozen 7
              go_wp2
              go_ret
              exact rOutPost HE.out (R_only rfl HF1.out ((Only.refl w1 _).set_ 7 (.bool false)) (fun k hk e => by have := Kd.R_base HF1.out k hk; have := H.out.lt; omega)) (HL1.out.set1 7 (.bool false) { sq with owes := false } rfl rfl) (HO1.out.set_ 7 _)
          · have hne : fs ≠ [] := fun e => hm0 (by rw [← HM.out, e]; rfl)
            have HE : Aside0 (T = ({ sq with owes := false }, fs)) := ⟨by rw [← HT2.out, if_neg (fun h => hne h.1)]⟩
            have hmz : ((m : Int) == 0) = false := beq_eq_false_iff_ne.mpr (by omega)
            clear hne
            go_wp2
            go_ret
            exact rOutPost HE.out (R_only rfl HF.out ((Only.refl wr _).set_ 7 (.bool false)) (fun k hk e => by have := Kd.R_base HF.out k hk; have := H.out.lt; omega)) (HL.out.set1 7 (.bool false) { sq with owes := false } rfl rfl) (HO.out.set_ 7 _)

end Go.Proofs.Ytdpogggajdfedaa.P
