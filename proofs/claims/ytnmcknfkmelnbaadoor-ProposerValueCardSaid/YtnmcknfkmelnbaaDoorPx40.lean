import Derived.Test.YtnmcknfkmelnbaaDoorWalkH
import Derived.Outline
import Derived.Laws.BitsAllLaws
import Derived.WalkSpells
import Derived.StillTailTactics
namespace Go.Proofs.YtnmcknfkmelnbaaDoor.P
open Go.RowKit Go.Proofs.YtnmcknfkmelnbaaDoorW.PrintWords Go.Proofs.YtnmcknfkmelnbaaDoorW.PrintLast Go.Proofs.YtnmcknfkmelnbaaDoorW.PrintMore
attribute [local go_sem] max2_int min2_int max_two min_two max_three min_three max_four min_four
set_option linter.unusedVariables false
set_option linter.unusedSimpArgs false
attribute [local go_sem high] eqA23
def pvR.T22 : Bool × List (List Nat × List Nat) := (true, [([], []), ([], []), ([0, 1], [0, 1]), ([2], [2]), ([3], [3]), ([4], [4]), ([5], [5]), ([], []), ([], []), ([7, 8], [7, 8]), ([9], [9]), ([10], [10]), ([11, 5], [11]), ([6, 12], [6, 12]), ([0, 1, 2, 3, 4, 5, 6, 7, 8, 9, 10, 11, 12, 13], []), ([14, 13, 12, 0, 1, 2, 3, 4, 5, 6, 7, 8, 9, 10, 11, 12, 13], [13, 14])])
def pvR.B22 : List Nat := [0, 0, 3, 7, 15, 31, 63, 0, 0, 384, 896, 1920, 4031, 8191, 16383, 32767]
theorem pvR.tab22 : rtab .any (opsOf Tryd.f4 22) = pvR.T22 := by kernel_rfl
theorem pvR.bits22 : waitsOk pvR.T22.2 pvR.B22 = true := by kernel_rfl
theorem ne00 {c d : Int} (h : ¬ (c = 0 ∧ d = 0)) : (!(c == 0) || (!(d == 0))) = true := by
  by_cases e1 : c = 0 <;> by_cases e2 : d = 0 <;> simp_all
theorem eq00 {c d : Int} (h : c = 0 ∧ d = 0) : (!(c == 0) || (!(d == 0))) = false := by simp [h.1, h.2]
theorem bcnt_set {l : List Bool} {k : Nat} (h : l.getD k false = false) (hk : k < l.length) : bcnt (l.set k true) = bcnt l + 1 := by
  induction l generalizing k with
  | nil => simp at hk
  | cons x l ih =>
    cases k with
    | zero =>
      simp only [List.getD_cons_zero] at h
      subst h
      simp [bcnt]
    | succ k =>
      simp only [List.getD_cons_succ] at h
      simp only [List.set_cons_succ]
      have := ih h (by simpa using hk)
      unfold bcnt at *
      rw [List.count_cons, List.count_cons, this]
      omega
theorem all_rd {l : List Int} (h : l.all inB = true) (i : Nat) (hi : i < l.length) : inB (rd l (i : Int)) = true := by
  rw [List.all_eq_true] at h
  have : rd l (i : Int) = l[i] := by simp [rd, List.getD_eq_getElem?_getD, List.getElem?_eq_getElem hi]
  rw [this]
  exact h _ (List.getElem_mem hi)
theorem all_rdT {l : List S23} (h : (l.all fun x => inB x.f0 && inB x.f1) = true) (i : Nat) (hi : i < l.length) : inB (rd_T23 l (i : Int)).f0 = true ∧ inB (rd_T23 l (i : Int)).f1 = true := by
  rw [List.all_eq_true] at h
  have : rd_T23 l (i : Int) = l[i] := by simp [rd_T23, List.getD_eq_getElem?_getD, List.getElem?_eq_getElem hi]
  rw [this]
  have := h _ (List.getElem_mem hi)
  simpa using this
theorem drawn2 {W W' : World} (h : ∃ m, W' = W.drewN m) (n : Nat) : ∃ m, W'.drewN n = W.drewN m := by
  obtain ⟨m, rfl⟩ := h
  exact ⟨m + n, World.drewN_drewN _ _ _⟩
theorem mk7 (W : World) : (Instr.makeSlice 52 (.int .i64 7) (.int .i64 7)).run Tryd.prog W = .ok (.slice (some ⟨W.heap.size, 0, none⟩) 7 7) (W.alloc (.cells #[.bool false, .bool false, .bool false, .bool false, .bool false, .bool false, .bool false] 4)) := by kernel_rfl
def carillonlaw11_ProposerValue.f (a0 : Int) (l1 : List S23) (l2 : List Int) (a3 : ByteArray) : Option Bool :=
  if inB a0 = true ∧ (l1.all fun x => inB x.f0 && inB x.f1) = true ∧ l2.all inB = true then some true else none
set_option maxHeartbeats 16000000 in
set_option maxRecDepth 100000 in
theorem carillonlaw11_ProposerValue.calls (a0 : Int) (A1 : Option Addr) (c1 : Nat) (l1 : List S23) (A2 : Option Addr) (c2 : Nat) (l2 : List Int) (a3 : ByteArray) (r : Bool) (w : World) (hr1 : Kd.C k23 w A1 l1.length l1) (hc1 : l1.length ≤ c1) (hr2 : Kd.C (Kd.int .i64) w A2 l2.length l2) (hc2 : l2.length ≤ c2) (hr_ : Aside0 (r = true)) (HT_ : TabOk w) (h : carillonlaw11_ProposerValue.f a0 l1 l2 a3 = some r) :
    Calls Tryd.prog 4 #[.int .i64 a0, .slice A1 l1.length c1, .slice A2 l2.length c2, .string a3] w fun e w' => e = .returned (.bool r) ∧ Below w.heap.size w w' := by
  obtain rfl := hr_.out
  have hmk := mk7
  unfold carillonlaw11_ProposerValue.f at h
  split at h
  case isFalse => exact absurd h (by simp)
  rename_i hcond
  obtain ⟨hi0, hi1, hi2⟩ := hcond
  have HI1 := Aside0.mk hi1
  have HI2 := Aside0.mk hi2
  have HR1 := Aside0.mk hr1
  have HR2 := Aside0.mk hr2
  have hm1 := hr1.2.1
  have hm2 := hr2.2.1
  have h0lt : 0 < w.heap.size := World.block_lt_of_cell? w _ (HT_.siz0 0 (by decide))
  have HT0 := Aside0.mk HT_
  obtain ⟨k0, hk0⟩ : ∃ k0, pickN a0 7 = k0 := ⟨_, rfl⟩
  have hk7 : k0 < 7 := by rw [← hk0]; exact pickN_lt a0 7 (by decide)
  have HPK := Aside0.mk (fun W => pick_calls a0 7 W hi0 (by decide) (by decide))
  simp only [hk0] at HPK
  have hw1 : wrap64 (1 + (k0 : Int)) = ((k0 + 1 : Nat) : Int) := by unfold wrap64; omega
  clear hr1 hr2 hi1 hi2 HT_ hi0 hk0 h hr_
  obtain ⟨n, hn⟩ : ∃ n, k0 + 1 = n := ⟨_, rfl⟩
  have hn1 : 1 ≤ n := by omega
  have hn7 : n ≤ 7 := by omega
  rw [hn] at hw1
  clear hn hk7
  go_enter Tryd.func4, Tryd.ntmps4
  go_wp2_with (go_at_call 7; refine (examples_calls w HT0.out).mono ?_)
  rintro e W1 ⟨rfl, hB1⟩
  have HB1 := Aside0.mk hB1
  have HT1 := Aside0.mk (HT0.out.below hB1)
  clear hB1
  go_wp2_with (go_at_call 10; refine (HPK.out _).mono ?_)
  rintro e W2 ⟨rfl, m2, rfl⟩
  go_wp2
  rw [hw1]
  have HBd := Aside0.mk (pw_below_drewN HB1.out m2)
  generalize W1.drewN m2 = W2 at HBd ⊢
  clear HPK HT1 HB1 hw1
  go_loopg [10, 11] (n + 1) (fun kq v10 v11 W => ∃ (k : Nat), k ≤ n ∧ v11 = .int .i64 (k : Int) ∧ n - k < kq ∧ Aside0 (Kd.R (Kd.int .i64) 3 W w.heap.size (fun _ => True) v10 (nodesN k)) ∧ Aside0 (Below w.heap.size w W))
  case atStart => exact ⟨0, Nat.zero_le _, rfl, by omega, ⟨Kd.R_nil _ _ _ _ _⟩, HBd⟩
  case round =>
    obtain ⟨k, hk, rfl, hq, aa, HB⟩ := hrel
    clear HBd
    by_cases hlt : k < n
    · have HL := Aside0.mk (nodesN_len k)
      have HS := Aside0.mk (nodesN_succ k)
      go_wp2_with ((with_reducible refine gate_builtin (b := .append) (xs := #[.tmp 35, .tmp 37]) rfl ?_); at_builtin; refine Kd.R_append (Kd.int .i64) (w0 := w) w.heap.size rfl (.tmp 35) (.tmp 37) 24 3 (.int .i64 0) 8 rfl Tryd.underlying24 info3 rfl (by decide) (by omega) u10 (nodesN k) (k : Int) [.int .i64 (k : Int)] (fun _ => True) (fun _ => False) rfl rfl ?aP (fun _ hk => hk.elim) ?aF ?aO ?aB ?aS ?aL ?_; (case aP => exact rfl); (case aB => exact bw); (case aF => exact (fun _ _ => trivial)); (case aO => exact (by (with_reducible repeat (first | apply Kd.R_alloc | apply Kd.R_drewN | apply Kd.R_drew)); exact aa.out)); (case aS => exact (below_size bw)); (case aL => have := HL.out; omega); intro v176 w6 ho hb hg hat; have n0_ := Aside0.mk hb; have n1_ := Aside0.mk ho; clear ho hb hg hat)
      go_roundg (n - k)
      case rel => exact ⟨k + 1, by omega, by go_num, by omega, ⟨by rw [HS.out]; exact n1_.out⟩, n0_⟩
      case measure => omega
    · obtain rfl : n = k := by omega
      obtain ⟨A9, c9, e9, hc9, hC9⟩ := Kd.R_reads aa.out
      subst e9
      rw [nodesN_len] at hc9 hC9 ⊢
      have HC9 := Aside0.mk hC9
      clear hC9 aa hq hlt
      have HNW := Aside0.mk (fun W (h : Kd.C (Kd.int .i64) W A9 n (nodesN n)) => by have h2 := new_calls 9 3 A9 c9 (nodesN n) W (by rw [nodesN_len]; exact h) (by rw [nodesN_len]; exact hc9); rw [new_nodes 9 3 (by unfold RightP; omega) n hn1 hn7, nodesN_len] at h2; exact h2)
      go_wp2_with (go_at_call 8; refine (HNW.out _ (Kd.C_alloc HC9.out _)).mono ?_)
      intro e W3 hN
      obtain ⟨hb, g, hg, rfl, hp⟩ := hN
      have hX0 := blk_below (heap_alloc_new wr (.cells #[.int .i64 9, .int .i64 3] 23)) hb
      have hB3 := (below_alloc HB.out (.cells #[.int .i64 9, .int .i64 3] 23)).trans (hb.mono (by have := HB.out.size; simp; omega))
      have hb0 := hb.size
      have hbb := HB.out.size
      have hg2 := hp.lt
      simp only [World.size_alloc] at hg hb0
      obtain ⟨b0, hb0e⟩ : ∃ b0, wr.heap.size = b0 := ⟨_, rfl⟩
      rw [hb0e] at hX0 hg hb0 hbb ⊢
      have HX0 := Aside0.mk hX0
      have HB3 := Aside0.mk hB3
      have HP3 := Aside0.mk hp
      have HT3 := Aside0.mk (HT0.out.below hB3)
      have HG := Aside0.mk (And.intro hg (And.intro hb0 (And.intro hbb hg2)))
      clear hb hX0 hB3 hp hg hb0 hbb hg2 HNW HC9 HB hb0e
      by_cases hbig : 1000 < a3.size
      · have hd : decide ((a3.size : Int) > 1000) = true := decide_eq_true (by omega)
        go_wp2
        go_ret
        exact ⟨rfl, HB3.out⟩
      · have hd : decide ((a3.size : Int) > 1000) = false := decide_eq_false (by omega)
        go_wp2
        have hst := World.size_alloc
        obtain ⟨b1, hb1e⟩ : ∃ b1, W3.heap.size = b1 := ⟨_, rfl⟩
        obtain ⟨hG1, hG2, hG3, hG4⟩ := HG.out
        have hX1 : (W3.alloc (.cells #[.int .i64 0, .int .i64 0] 23)).heap[b1]? = some (.cells #[.int .i64 0, .int .i64 0] 23 (0, 0)) := by rw [← hb1e]; exact heap_alloc_new W3 _
        have hX2 := heap_alloc_new (W3.alloc (.cells #[.int .i64 0, .int .i64 0] 23)) (.cells #[.bool false, .bool false, .bool false, .bool false, .bool false, .bool false, .bool false] 4)
        rw [World.size_alloc, hb1e] at hX2
        have HS40 : VState w ((W3.alloc (.cells #[.int .i64 0, .int .i64 0] 23)).alloc (.cells #[.bool false, .bool false, .bool false, .bool false, .bool false, .bool false, .bool false] 4)) g b0 b1 (b1 + 1) n (prNew 9 3 (nodesB n)) := ⟨⟨(HP3.out.below (below_alloc (Below.refl _ _) _)).below (below_alloc (Below.refl _ _) _), blk_alloc (blk_alloc HX0.out _) _, blk_alloc hX1 _, hX2, (HT3.out.alloc _).alloc _, below_alloc (below_alloc HB3.out _) _, ⟨by omega, by omega, by omega, by omega, h0lt⟩, ⟨by omega, by omega, by omega, by omega, by omega, by omega⟩⟩, VInv.new n⟩
        have HS4 := Aside0.mk HS40
        clear HS40
        clear hX1 hX2
        rw [hb1e]
        generalize (W3.alloc (.cells #[.int .i64 0, .int .i64 0] 23)).alloc (.cells #[.bool false, .bool false, .bool false, .bool false, .bool false, .bool false, .bool false] 4) = W4 at HS4 ⊢
        clear HX0 HB3 HP3 HT3 hG1 hG2 hG3 hG4 HG hb1e hst hmk
        generalize b1 + 1 = gp at HS4 ⊢
        go_loopg [17, 18] (l2.length + 1) (fun kq v17 v18 W => ∃ (i : Nat) (p : PrS), i ≤ l2.length ∧ v17 = .int .i64 (bcnt p.prom : Int) ∧ v18 = .int .i64 (i : Int) ∧ l2.length - i < kq ∧ Aside0 (VState w W g b0 b1 gp n p))
        case atStart => exact ⟨0, prNew 9 3 (nodesB n), Nat.zero_le _, rfl, rfl, by omega, HS4⟩
        case round =>
          obtain ⟨i, p, hi, rfl, rfl, hq, HS⟩ := hrel
          clear HS4
          obtain ⟨m, hm⟩ : ∃ m, bcnt p.prom = m := ⟨_, rfl⟩
          have hm7 : m ≤ 7 := by rw [← hm]; exact bcnt_le7 _ HS.out.2.l2
          have HM := Aside0.mk hm
          rw [hm]
          clear hm
          by_cases hlt : i < l2.length
          · have HRk := Kd.C_below HR2.out HS.out.1.B
            obtain ⟨ad, e0, hx⟩ := Kd.at_int HRk (i : Int) (by omega) (by omega)
            cases e0
            rw [show ((i : Int)).toNat = i from rfl] at hx
            have hxb : inB (rd l2 (i : Int)) = true := all_rd HI2.out i hlt
            generalize rd l2 (i : Int) = x at hx hxb
            have hk : pickN x n < n := pickN_lt x n hn1
            have HPK := Aside0.mk (fun W => pick_calls x n W hxb hn1 (by omega))
            generalize pickN x n = k at hk HPK
            clear HRk hxb
            go_wp2_with (go_at_call 10; refine (HPK.out _).mono ?_)
            rintro e W5 ⟨rfl, m5, rfl⟩
            have HS5 := Aside0.mk (And.intro (HS.out.1.drewN m5) HS.out.2)
            generalize wr.drewN m5 = W5 at HS5 ⊢
            clear HS HPK hx
            have hpk := HS5.out.1.prom k (by rw [HS5.out.2.l2]; omega)
            by_cases hpr : p.prom.getD k false = true
            · rw [hpr] at hpk
              go_wp2
              go_roundg (l2.length - i)
              case rel => exact ⟨i + 1, p, by omega, by rw [HM.out], by go_num, by omega, ⟨HS5.out⟩⟩
              case measure => omega
            · have hprf : p.prom.getD k false = false := by simpa using hpr
              rw [hprf] at hpk
              have HPF := Aside0.mk hprf
              clear hpr hprf
              obtain ⟨hz0, hz1, _, _⟩ := bx2 HS5.out.1.X0
              by_cases hkt : k < l1.length
              · have HRt := Kd.C_below HR1.out HS5.out.1.B
                obtain ⟨adt, e1, ht0, ht1⟩ := at_T23 HRt (k : Int) (by omega) (by omega)
                cases e1
                have hyb := all_rdT HI1.out k hkt
                rw [show ((k : Int)).toNat = k from rfl] at ht0 ht1
                generalize rd_T23 l1 (k : Int) = y at ht0 ht1 hyb
                obtain ⟨yc, yd⟩ := y
                dsimp only at ht0 ht1 hyb
                have hbl : (adt.add (k * 2)).block < W5.heap.size := World.block_lt_of_cell? _ _ ht0
                have ht0a := pw_cell_below (below_alloc (Below.refl W5.heap.size W5) (.cells #[.int .i64 9, .int .i64 3, .int .i64 0, .int .i64 0, .string ⟨#[]⟩] 34)) ht0
                clear HRt
                by_cases hy : yc = 0 ∧ yd = 0
                · have hyf := eq00 hy
                  clear hy hyb
                  have HPR := Aside0.mk (HS5.out.2.none_ hn7 k hk HPF.out)
                  go_wp2_with (go_at_call 11; refine (promise_he g p (k : Int) ⟨9, 3, 0, 0, ⟨#[]⟩⟩ _ (HS5.out.1.alloc _).P (HS5.out.1.alloc _).T).mono ?_)
                  rw [HPR.out.1]
                  rintro e W6 ⟨rfl, hP, hO⟩
                  have HS6 := Aside0.mk (And.intro ((HS5.out.1.alloc _).only hP hO) HPR.out.2)
                  clear hP hO HPR hz0 hz1 hpk
                  have hlk : k < p.prom.length := by rw [HS5.out.2.l2]; omega
                  have hpk := HS6.out.1.prom k hlk
                  rw [HPF.out] at hpk
                  have hfr := blk_frozen HS6.out.1.X2 k
                  have HS7 := Aside0.mk (And.intro (HS6.out.1.setProm k) HS6.out.2)
                  have HM7 := Aside0.mk (show bcnt (p.prom.set k true) = m + 1 by rw [bcnt_set HPF.out hlk, HM.out])
                  clear HS6
                  by_cases hgo : 2 * (m + 1) ≤ n
                  · have hd1 : decide (2 * ((m : Int) + 1) > (n : Int)) = false := decide_eq_false (by omega)
                    go_wp2
                    go_roundg (l2.length - i)
                    case rel => exact ⟨i + 1, _, by omega, by rw [HM7.out]; go_num, by go_num, by omega, ⟨HS7.out⟩⟩
                    case measure => omega
                  · have hd1 : decide (2 * ((m : Int) + 1) > (n : Int)) = true := decide_eq_true (by omega)
                    have HS0 : Aside0 (VState w _ g b0 b1 gp n { p with prom := p.prom.set k true }) := ⟨HS7.out⟩
                    have HM0 : Aside0 (bcnt ({ p with prom := p.prom.set k true } : PrS).prom = m + 1) := ⟨HM7.out⟩
                    clear HS7 HM7 HS5
                    generalize ({ p with prom := p.prom.set k true } : PrS) = q at HS0 HM0
                    have HS := HS0
                    have HM := HM0
                    clear HS0 HM0
                    by_cases hf : 2 * (m + 1) ≤ n
                    · have hdec : decide (wrap64 (2 * ((m : Int) + 1)) ≤ (n : Int)) = true := decide_eq_true (by unfold wrap64; omega)
                      have hdec2 : decide (2 * ((m : Int) + 1) ≤ (n : Int)) = true := decide_eq_true (by omega)
                      have HTL := Aside0.mk (HS.out.2.few hn7 a3 (by rw [HM.out]; exact hf))
                      clear hf
                      go_wp2_with (go_at_call 13; refine (tell_calls g q a3 _ HS.out.1.P).mono ?_)
                      rw [HTL.out]
                      rintro e W9 ⟨rfl, hP, hO⟩
                      have HB9 := Aside0.mk (HS.out.1.only hP hO).B
                      clear hP hO
                      go_wp2
                      go_ret
                      exact ⟨rfl, HB9.out⟩
                    · have hdec : decide (wrap64 (2 * ((m : Int) + 1)) ≤ (n : Int)) = false := decide_eq_false (by unfold wrap64; omega)
                      have hdec2 : decide (2 * ((m : Int) + 1) ≤ (n : Int)) = false := decide_eq_false (by omega)
                      have HTL := Aside0.mk (HS.out.2.many hn7 a3 (by omega) (by rw [HM.out]; exact hf))
                      clear hf
                      rw [HS.out.2.want a3] at HTL
                      by_cases hz : q.best.c = 0 ∧ q.best.d = 0
                      · rw [if_pos hz] at HTL
                        have hzb : (!(q.best.c == 0) || (!(q.best.d == 0))) = false := eq00 hz
                        clear hz
                        go_wp2_with (go_at_call 13; refine (tell_calls g q a3 _ HS.out.1.P).mono ?_)
                        rw [HTL.out]
                        rintro e W9 ⟨rfl, hP, hO⟩
                        have HS9 := Aside0.mk (HS.out.1.only hP hO)
                        clear hP hO
                        obtain ⟨hy0, hy1, _, _⟩ := bx2 HS9.out.X1
                        go_wp2_with (go_at_call 13; refine (tell_calls g _ ⟨#[97, 110, 111, 116, 104, 101, 114]⟩ _ HS9.out.P).mono ?_)
                        rw [tell_again]
                        rintro e W10 ⟨rfl, hP, hO⟩
                        have HS10 := Aside0.mk (HS9.out.only hP hO)
                        clear hP hO hy0 hy1
                        have HV : Aside0 (Calls Tryd.prog 21 #[.pointer (some ⟨g, 0, none⟩)] W10 fun e w' => e = .returned (.string a3) ∧ w' = W10) := ⟨value_calls g _ _ HS10.out.P⟩
                        go_wp2_with (go_at_call 21; refine HV.out.mono ?_; rintro e W11 ⟨rfl, rfl⟩)
                        go_ret
                        exact ⟨rfl, HS10.out.B⟩
                      · rw [if_neg hz] at HTL
                        have hzb : (!(q.best.c == 0) || (!(q.best.d == 0))) = true := ne00 hz
                        clear hz
                        have HVO := Aside0.mk (fun W => carillonlaw11_valueOf.calls q.best.c q.best.d (valB q.best.c q.best.d) W rfl)
                        go_wp2_with (go_at_call 13; refine (tell_calls g q a3 _ HS.out.1.P).mono ?_)
                        rw [HTL.out]
                        rintro e W9 ⟨rfl, hP, hO⟩
                        have HS9 := Aside0.mk (HS.out.1.only hP hO)
                        clear hP hO HTL
                        generalize valB q.best.c q.best.d = vv at HS9 HVO ⊢
                        obtain ⟨hy0, hy1, _, _⟩ := bx2 HS9.out.X1
                        go_wp2_with (go_at_call 22; refine (HVO.out _).mono ?_)
                        rintro e W12 ⟨rfl, hb⟩
                        have HS12 := Aside0.mk (HS9.out.below hb)
                        clear hb hy0 hy1
                        go_wp2_with (go_at_call 13; refine (tell_calls g _ ⟨#[97, 110, 111, 116, 104, 101, 114]⟩ _ HS12.out.P).mono ?_)
                        rw [tell_again]
                        rintro e W10 ⟨rfl, hP, hO⟩
                        have HS10 := Aside0.mk (HS12.out.only hP hO)
                        clear hP hO
                        have HV : Aside0 (Calls Tryd.prog 21 #[.pointer (some ⟨g, 0, none⟩)] W10 fun e w' => e = .returned (.string vv) ∧ w' = W10) := ⟨value_calls g _ _ HS10.out.P⟩
                        go_wp2_with (go_at_call 21; refine HV.out.mono ?_; rintro e W11 ⟨rfl, rfl⟩)
                        go_ret
                        exact ⟨rfl, HS10.out.B⟩

                · have hyt := ne00 hy
                  clear hy
                  have hgl := HS5.out.1.P.lt
                  have hb0l := blk_lt HS5.out.1.X0
                  have hb1l := blk_lt HS5.out.1.X1
                  have hgpl := blk_lt HS5.out.1.X2
                  have ht1a := pw_cell_below (below_alloc (Below.refl W5.heap.size W5) (.cells #[.int .i64 9, .int .i64 3, .int .i64 0, .int .i64 0, .string ⟨#[]⟩] 34)) ht1
                  have HA := Aside0.mk (heap_alloc_new W5 (.cells #[.int .i64 9, .int .i64 3, .int .i64 0, .int .i64 0, .string ⟨#[]⟩] 34))
                  have HS6 := Aside0.mk (And.intro (HS5.out.1.alloc (.cells #[.int .i64 9, .int .i64 3, .int .i64 0, .int .i64 0, .string ⟨#[]⟩] 34)) HS5.out.2)
                  have HPK3 := Aside0.mk (fun W => pick_calls yc 3 W hyb.1 (by decide) (by decide))
                  have HPK7 := Aside0.mk (fun W => pick_calls yd 7 W hyb.2 (by decide) (by decide))
                  have hc3 := pickN_lt yc 3 (by decide)
                  have hd7 := pickN_lt yd 7 (by decide)
                  generalize pickN yc 3 = c at HPK3 hc3
                  generalize pickN yd 7 = d at HPK7 hd7
                  obtain ⟨ga, hga⟩ : ∃ ga, W5.heap.size = ga := ⟨_, rfl⟩
                  rw [hga] at hgl hb0l hb1l hgpl HA
                  have HGA := Aside0.mk (And.intro hgl (And.intro hb0l (And.intro hb1l hgpl)))
                  clear hgl hb0l hb1l hgpl
                  go_wp2
                  try rw [hga]
                  clear hpk hz0 hz1 ht0 ht1 hbl hyt hyb
                  generalize W5.alloc (.cells #[.int .i64 9, .int .i64 3, .int .i64 0, .int .i64 0, .string ⟨#[]⟩] 34) = W6 at ht0a ht1a HA HS6 ⊢
                  clear hga
                  obtain ⟨hxa0, hxa1, hxa2, hxa3, hxa4, hfa0, hfa1, hfa2, hfa3, hfa4⟩ := bx5 HA.out
                  refine start_ (n := 16) (S := fun W' => ∃ mm, W' = W6.drewN mm) (ds := [15]) (bz 16 0) (by kernel_rfl) rfl rfl ⟨1, rfl⟩ (fun hHeld => ?_); refine with_tabW pvR.tab22 pvR.bits22 (fun HT_ HW_ => ?_)
                  refine pu_ 0 (some 93) (bz 16 1) HT_.out ?_
                  refine pu_ 1 (some 94) (bz 16 3) HT_.out ?_
                  refine pu_ 2 (some 95) (bz 16 7) HT_.out ?_
                  refine pu_ 3 (some 96) (bz 16 15) HT_.out ?_
                  refine pu_ 7 (some 100) (bz 16 143) HT_.out ?_
                  refine pu_ 8 (some 101) (bz 16 399) HT_.out ?_
                  refine pu_ 9 (some 102) (bz 16 911) HT_.out ?_
                  refine pu_ 10 (some 103) (bz 16 1935) HT_.out ?_
                  refine take_ (i := 4) (N := (some 97)) (v := ?_) (a' := ?_) (bz 16 1951) rfl rfl (take_ofW HT_.out HW_.out (by kernel_rfl)) (fun _ _ _ h => h) (Or.inl ⟨by rfl, ?_⟩) hHeld ?_ ?_
                  rotate_left
                  · rintro w' ⟨mm, rfl⟩
                    go_simp
                    with_reducible rfl
                  rotate_left
                  · simp only [Act.put, sl1, sl2, sl3, i64_w, i32_w]
                    rfl
                  refine take_ (i := 11) (N := (some 104)) (v := ?_) (a' := ?_) (bz 16 3999) rfl rfl (take_ofW HT_.out HW_.out (by kernel_rfl)) (fun _ _ _ h => h) (Or.inl ⟨by rfl, ?_⟩) hHeld ?_ ?_
                  rotate_left
                  · rintro w' ⟨mm, rfl⟩
                    go_simp
                    with_reducible rfl
                  rotate_left
                  · simp only [Act.put, sl1, sl2, sl3, i64_w, i32_w]
                    rfl
                  refine one_ (i := 5) (N := (some 98)) (bz 16 4031) rfl rfl (one_of HT_.out (by kernel_rfl)) (by decide) (fun K hK => ?_)
                  refine goes_ Tryd.func10 (by kernel_rfl) rfl #[.int .i64 yc, .int .i64 3] (by rfl) rfl rfl am ?_
                  refine (HPK3.out _).mono ?_
                  rintro e w1 ⟨rfl, mm1, rfl⟩
                  refine ⟨_, rfl, ?_⟩
                  refine hK.out _ _ (drawn2 hHeld mm1) (fun hHeld => ?_)
                  clear hK K
                  refine norm_ (a' := ?_) ?_ ?_
                  rotate_left
                  · show Act.put _ (some 98) _ = _
                    simp only [Act.put, sl1, sl2, sl3, i64_w, i32_w]
                    rfl
                  refine pu_ 6 (some 99) (bz 16 4095) HT_.out ?_
                  refine one_ (i := 12) (N := (some 105)) (bz 16 8191) rfl rfl (one_of HT_.out (by kernel_rfl)) (by decide) (fun K hK => ?_)
                  refine goes_ Tryd.func10 (by kernel_rfl) rfl #[.int .i64 yd, .int .i64 7] (by rfl) rfl rfl am ?_
                  refine (HPK7.out _).mono ?_
                  rintro e w2 ⟨rfl, mm2, rfl⟩
                  refine ⟨_, rfl, ?_⟩
                  refine hK.out _ _ (drawn2 hHeld mm2) (fun hHeld => ?_)
                  clear hK K
                  refine norm_ (a' := ?_) ?_ ?_
                  rotate_left
                  · show Act.put _ (some 105) _ = _
                    simp only [Act.put, sl1, sl2, sl3, i64_w, i32_w]
                    rfl
                  refine pu_ 13 (some 106) (bz 16 16383) HT_.out ?_
                  refine pu_ 14 (some 107) (bz 16 32767) HT_.out ?_
                  refine last_ (i := 15) (N := none) (bz 16 65535) rfl rfl (one_of HT_.out (by kernel_rfl)) (by decide) (fun K hK => ?_)
                  obtain ⟨m9, h9⟩ := hHeld
                  rw [h9]
                  refine skip_ (w1 := ?_) (by rfl) rfl ?_ ?_
                  rotate_left
                  · go_simp
                    rfl
                  refine hK.out _ _ ?_
                  clear hK K
                  refine done_ (done_of HT_.out (by kernel_rfl)) ?_
                  have hw3 : wrap64 (1 + (c : Int)) = 1 + (c : Int) := by unfold wrap64; omega
                  rw [hw3]
                  obtain ⟨hg1, hg2, hg3, hg4⟩ := HGA.out
                  have HA7 : Aside0 ((((W6.drewN m9).setCell ⟨ga, 2, none⟩ (.int .i64 (1 + (c : Int)))).setCell ⟨ga, 3, none⟩ (.int .i64 (d : Int))).heap[ga]? = some (.cells #[.int .i64 9, .int .i64 3, .int .i64 (1 + (c : Int)), .int .i64 (d : Int), .string ⟨#[]⟩] 34 (0, 0))) := ⟨by rw [blk_set (blk_set (blk_drewN HA.out m9) _ _) _ _]; rfl⟩
                  have HS7 : Aside0 (VS0 w (((W6.drewN m9).setCell ⟨ga, 2, none⟩ (.int .i64 (1 + (c : Int)))).setCell ⟨ga, 3, none⟩ (.int .i64 (d : Int))) g b0 b1 gp p p.best.c p.best.d p.prom) := ⟨(HS6.out.1.drewN m9).away ((((Only.refl _ (· = ga)).set_ _ _)).set_ _ _) hg1 hg2 hg3 hg4⟩
                  generalize ((W6.drewN m9).setCell ⟨ga, 2, none⟩ (.int .i64 (1 + (c : Int)))).setCell ⟨ga, 3, none⟩ (.int .i64 (d : Int)) = W7 at HA7 HS7 ⊢
                  clear hxa0 hxa1 hxa2 hxa3 hxa4 hfa0 hfa1 hfa2 hfa3 hfa4 ht0a ht1a HA HS6 HPK3 HPK7 HT_ HW_ hw3 hg1 hg2 hg3 hg4 h9
                  obtain ⟨hxa0, hxa1, hxa2, hxa3, hxa4, hfa0, hfa1, hfa2, hfa3, hfa4⟩ := bx5 HA7.out
                  have HVO := Aside0.mk (fun W => carillonlaw11_valueOf.calls (1 + (c : Int)) (d : Int) (valB (1 + (c : Int)) (d : Int)) W rfl)
                  go_wp2_with (go_at_call 22; refine (HVO.out _).mono ?_)
                  rintro e W8 ⟨rfl, hb⟩
                  have HS8 := Aside0.mk (HS7.out.below hb)
                  have HA8 := Aside0.mk (blk_below HA7.out hb)
                  clear hb hxa0 hxa1 hxa2 hxa3 hxa4 hfa0 hfa1 hfa2 hfa3 hfa4 HA7 HS7 HVO
                  obtain ⟨hxa0, hxa1, hxa2, hxa3, hxa4, hfa0, hfa1, hfa2, hfa3, hfa4⟩ := bx5 HA8.out
                  obtain ⟨hy0, hy1, hfy0, hfy1⟩ := bx2 HS8.out.X1
                  have hnb : b1 ≠ ga := Nat.ne_of_lt HGA.out.2.2.1
                  have hnc : ga ≠ b1 := Ne.symm hnb
                  have HS9 : Aside0 (VS0 w (W8.setCell ⟨ga, 4, none⟩ (.string (valB (1 + (c : Int)) (d : Int)))) g b0 b1 gp p p.best.c p.best.d p.prom) := ⟨HS8.out.away ((Only.refl _ (· = ga)).set_ _ _) HGA.out.1 HGA.out.2.1 HGA.out.2.2.1 HGA.out.2.2.2⟩
                  clear HS8 HA8
                  by_cases hc1 : p.best.c < 1 + (c : Int)
                  · have hd1 : decide (1 + (c : Int) > p.best.c) = true := decide_eq_true hc1
                    have HLS := Aside0.mk (show LessP p.best.c p.best.d (1 + (c : Int)) (d : Int) from .inl hc1)
                    clear hc1
                    have HPR := Aside0.mk (HS5.out.2.some_ hn7 k hk HPF.out c d hc3 hd7 ⟨9, 3, 1 + (c : Int), (d : Int), valB (1 + (c : Int)) (d : Int)⟩ (by rw [if_pos HLS.out]))
                    have HS10 := Aside0.mk (HS9.out.setBest (c' := 1 + (c : Int)) (d' := (d : Int)))
                    go_wp2_with (go_at_call 11; refine (promise_he g p (k : Int) ⟨9, 3, 1 + (c : Int), (d : Int), valB (1 + (c : Int)) (d : Int)⟩ _ HS10.out.P HS10.out.T).mono ?_)
                    rw [HPR.out.1]
                    rintro e W10 ⟨rfl, hP, hO⟩
                    have HS6 := Aside0.mk (And.intro (HS10.out.only hP hO) HPR.out.2)
                    clear hP hO HPR hxa0 hxa1 hxa2 hxa3 hxa4 hfa0 hfa1 hfa2 hfa3 hfa4 hy0 hy1 hfy0 hfy1 hnb hnc HS9 HS10
                    have hlk : k < p.prom.length := by rw [HS5.out.2.l2]; omega
                    have hpk := HS6.out.1.prom k hlk
                    rw [HPF.out] at hpk
                    have hfr := blk_frozen HS6.out.1.X2 k
                    have HS7 := Aside0.mk (And.intro (HS6.out.1.setProm k) HS6.out.2)
                    have HM7 := Aside0.mk (show bcnt (p.prom.set k true) = m + 1 by rw [bcnt_set HPF.out hlk, HM.out])
                    clear HS6
                    by_cases hgo : 2 * (m + 1) ≤ n
                    · have hd1 : decide (2 * ((m : Int) + 1) > (n : Int)) = false := decide_eq_false (by omega)
                      go_wp2
                      go_roundg (l2.length - i)
                      case rel => exact ⟨i + 1, _, by omega, by rw [HM7.out]; go_num, by go_num, by omega, ⟨HS7.out⟩⟩
                      case measure => omega
                    · have hd1 : decide (2 * ((m : Int) + 1) > (n : Int)) = true := decide_eq_true (by omega)
                      have HS0 : Aside0 (VState w _ g b0 b1 gp n { p with prom := p.prom.set k true, best := ⟨9, 3, 1 + (c : Int), (d : Int), valB (1 + (c : Int)) (d : Int)⟩ }) := ⟨HS7.out⟩
                      have HM0 : Aside0 (bcnt ({ p with prom := p.prom.set k true, best := ⟨9, 3, 1 + (c : Int), (d : Int), valB (1 + (c : Int)) (d : Int)⟩ } : PrS).prom = m + 1) := ⟨HM7.out⟩
                      clear HS7 HM7 HS5
                      generalize ({ p with prom := p.prom.set k true, best := ⟨9, 3, 1 + (c : Int), (d : Int), valB (1 + (c : Int)) (d : Int)⟩ } : PrS) = q at HS0 HM0
                      have HS := HS0
                      have HM := HM0
                      clear HS0 HM0
                      by_cases hf : 2 * (m + 1) ≤ n
                      · have hdec : decide (wrap64 (2 * ((m : Int) + 1)) ≤ (n : Int)) = true := decide_eq_true (by unfold wrap64; omega)
                        have hdec2 : decide (2 * ((m : Int) + 1) ≤ (n : Int)) = true := decide_eq_true (by omega)
                        have HTL := Aside0.mk (HS.out.2.few hn7 a3 (by rw [HM.out]; exact hf))
                        clear hf
                        go_wp2_with (go_at_call 13; refine (tell_calls g q a3 _ HS.out.1.P).mono ?_)
                        rw [HTL.out]
                        rintro e W9 ⟨rfl, hP, hO⟩
                        have HB9 := Aside0.mk (HS.out.1.only hP hO).B
                        clear hP hO
                        go_wp2
                        go_ret
                        exact ⟨rfl, HB9.out⟩
                      · have hdec : decide (wrap64 (2 * ((m : Int) + 1)) ≤ (n : Int)) = false := decide_eq_false (by unfold wrap64; omega)
                        have hdec2 : decide (2 * ((m : Int) + 1) ≤ (n : Int)) = false := decide_eq_false (by omega)
                        have HTL := Aside0.mk (HS.out.2.many hn7 a3 (by omega) (by rw [HM.out]; exact hf))
                        clear hf
                        rw [HS.out.2.want a3] at HTL
                        by_cases hz : q.best.c = 0 ∧ q.best.d = 0
                        · rw [if_pos hz] at HTL
                          have hzb : (!(q.best.c == 0) || (!(q.best.d == 0))) = false := eq00 hz
                          clear hz
                          go_wp2_with (go_at_call 13; refine (tell_calls g q a3 _ HS.out.1.P).mono ?_)
                          rw [HTL.out]
                          rintro e W9 ⟨rfl, hP, hO⟩
                          have HS9 := Aside0.mk (HS.out.1.only hP hO)
                          clear hP hO
                          obtain ⟨hy0, hy1, _, _⟩ := bx2 HS9.out.X1
                          go_wp2_with (go_at_call 13; refine (tell_calls g _ ⟨#[97, 110, 111, 116, 104, 101, 114]⟩ _ HS9.out.P).mono ?_)
                          rw [tell_again]
                          rintro e W10 ⟨rfl, hP, hO⟩
                          have HS10 := Aside0.mk (HS9.out.only hP hO)
                          clear hP hO hy0 hy1
                          have HV : Aside0 (Calls Tryd.prog 21 #[.pointer (some ⟨g, 0, none⟩)] W10 fun e w' => e = .returned (.string a3) ∧ w' = W10) := ⟨value_calls g _ _ HS10.out.P⟩
                          go_wp2_with (go_at_call 21; refine HV.out.mono ?_; rintro e W11 ⟨rfl, rfl⟩)
                          go_ret
                          exact ⟨rfl, HS10.out.B⟩
                        · rw [if_neg hz] at HTL
                          have hzb : (!(q.best.c == 0) || (!(q.best.d == 0))) = true := ne00 hz
                          clear hz
                          have HVO := Aside0.mk (fun W => carillonlaw11_valueOf.calls q.best.c q.best.d (valB q.best.c q.best.d) W rfl)
                          go_wp2_with (go_at_call 13; refine (tell_calls g q a3 _ HS.out.1.P).mono ?_)
                          rw [HTL.out]
                          rintro e W9 ⟨rfl, hP, hO⟩
                          have HS9 := Aside0.mk (HS.out.1.only hP hO)
                          clear hP hO HTL
                          generalize valB q.best.c q.best.d = vv at HS9 HVO ⊢
                          obtain ⟨hy0, hy1, _, _⟩ := bx2 HS9.out.X1
                          go_wp2_with (go_at_call 22; refine (HVO.out _).mono ?_)
                          rintro e W12 ⟨rfl, hb⟩
                          have HS12 := Aside0.mk (HS9.out.below hb)
                          clear hb hy0 hy1
                          go_wp2_with (go_at_call 13; refine (tell_calls g _ ⟨#[97, 110, 111, 116, 104, 101, 114]⟩ _ HS12.out.P).mono ?_)
                          rw [tell_again]
                          rintro e W10 ⟨rfl, hP, hO⟩
                          have HS10 := Aside0.mk (HS12.out.only hP hO)
                          clear hP hO
                          have HV : Aside0 (Calls Tryd.prog 21 #[.pointer (some ⟨g, 0, none⟩)] W10 fun e w' => e = .returned (.string vv) ∧ w' = W10) := ⟨value_calls g _ _ HS10.out.P⟩
                          go_wp2_with (go_at_call 21; refine HV.out.mono ?_; rintro e W11 ⟨rfl, rfl⟩)
                          go_ret
                          exact ⟨rfl, HS10.out.B⟩

                  · have hd1 : decide (1 + (c : Int) > p.best.c) = false := decide_eq_false hc1
                    by_cases hc2 : 1 + (c : Int) = p.best.c
                    · have hd2 : ((1 + (c : Int)) == p.best.c) = true := beq_iff_eq.mpr hc2
                      by_cases hc4 : p.best.d < (d : Int)
                      · have hd3 : decide ((d : Int) > p.best.d) = true := decide_eq_true hc4
                        have HLS := Aside0.mk (show LessP p.best.c p.best.d (1 + (c : Int)) (d : Int) from .inr ⟨hc2.symm, hc4⟩)
                        clear hc1 hc2 hc4
                        have HPR := Aside0.mk (HS5.out.2.some_ hn7 k hk HPF.out c d hc3 hd7 ⟨9, 3, 1 + (c : Int), (d : Int), valB (1 + (c : Int)) (d : Int)⟩ (by rw [if_pos HLS.out]))
                        have HS10 := Aside0.mk (HS9.out.setBest (c' := 1 + (c : Int)) (d' := (d : Int)))
                        go_wp2_with (go_at_call 11; refine (promise_he g p (k : Int) ⟨9, 3, 1 + (c : Int), (d : Int), valB (1 + (c : Int)) (d : Int)⟩ _ HS10.out.P HS10.out.T).mono ?_)
                        rw [HPR.out.1]
                        rintro e W10 ⟨rfl, hP, hO⟩
                        have HS6 := Aside0.mk (And.intro (HS10.out.only hP hO) HPR.out.2)
                        clear hP hO HPR hxa0 hxa1 hxa2 hxa3 hxa4 hfa0 hfa1 hfa2 hfa3 hfa4 hy0 hy1 hfy0 hfy1 hnb hnc HS9 HS10
                        have hlk : k < p.prom.length := by rw [HS5.out.2.l2]; omega
                        have hpk := HS6.out.1.prom k hlk
                        rw [HPF.out] at hpk
                        have hfr := blk_frozen HS6.out.1.X2 k
                        have HS7 := Aside0.mk (And.intro (HS6.out.1.setProm k) HS6.out.2)
                        have HM7 := Aside0.mk (show bcnt (p.prom.set k true) = m + 1 by rw [bcnt_set HPF.out hlk, HM.out])
                        clear HS6
                        by_cases hgo : 2 * (m + 1) ≤ n
                        · have hd1 : decide (2 * ((m : Int) + 1) > (n : Int)) = false := decide_eq_false (by omega)
                          go_wp2
                          go_roundg (l2.length - i)
                          case rel => exact ⟨i + 1, _, by omega, by rw [HM7.out]; go_num, by go_num, by omega, ⟨HS7.out⟩⟩
                          case measure => omega
                        · have hd1 : decide (2 * ((m : Int) + 1) > (n : Int)) = true := decide_eq_true (by omega)
                          have HS0 : Aside0 (VState w _ g b0 b1 gp n { p with prom := p.prom.set k true, best := ⟨9, 3, 1 + (c : Int), (d : Int), valB (1 + (c : Int)) (d : Int)⟩ }) := ⟨HS7.out⟩
                          have HM0 : Aside0 (bcnt ({ p with prom := p.prom.set k true, best := ⟨9, 3, 1 + (c : Int), (d : Int), valB (1 + (c : Int)) (d : Int)⟩ } : PrS).prom = m + 1) := ⟨HM7.out⟩
                          clear HS7 HM7 HS5
                          generalize ({ p with prom := p.prom.set k true, best := ⟨9, 3, 1 + (c : Int), (d : Int), valB (1 + (c : Int)) (d : Int)⟩ } : PrS) = q at HS0 HM0
                          have HS := HS0
                          have HM := HM0
                          clear HS0 HM0
                          by_cases hf : 2 * (m + 1) ≤ n
                          · have hdec : decide (wrap64 (2 * ((m : Int) + 1)) ≤ (n : Int)) = true := decide_eq_true (by unfold wrap64; omega)
                            have hdec2 : decide (2 * ((m : Int) + 1) ≤ (n : Int)) = true := decide_eq_true (by omega)
                            have HTL := Aside0.mk (HS.out.2.few hn7 a3 (by rw [HM.out]; exact hf))
                            clear hf
                            go_wp2_with (go_at_call 13; refine (tell_calls g q a3 _ HS.out.1.P).mono ?_)
                            rw [HTL.out]
                            rintro e W9 ⟨rfl, hP, hO⟩
                            have HB9 := Aside0.mk (HS.out.1.only hP hO).B
                            clear hP hO
                            go_wp2
                            go_ret
                            exact ⟨rfl, HB9.out⟩
                          · have hdec : decide (wrap64 (2 * ((m : Int) + 1)) ≤ (n : Int)) = false := decide_eq_false (by unfold wrap64; omega)
                            have hdec2 : decide (2 * ((m : Int) + 1) ≤ (n : Int)) = false := decide_eq_false (by omega)
                            have HTL := Aside0.mk (HS.out.2.many hn7 a3 (by omega) (by rw [HM.out]; exact hf))
                            clear hf
                            rw [HS.out.2.want a3] at HTL
                            by_cases hz : q.best.c = 0 ∧ q.best.d = 0
                            · rw [if_pos hz] at HTL
                              have hzb : (!(q.best.c == 0) || (!(q.best.d == 0))) = false := eq00 hz
                              clear hz
                              go_wp2_with (go_at_call 13; refine (tell_calls g q a3 _ HS.out.1.P).mono ?_)
                              rw [HTL.out]
                              rintro e W9 ⟨rfl, hP, hO⟩
                              have HS9 := Aside0.mk (HS.out.1.only hP hO)
                              clear hP hO
                              obtain ⟨hy0, hy1, _, _⟩ := bx2 HS9.out.X1
                              go_wp2_with (go_at_call 13; refine (tell_calls g _ ⟨#[97, 110, 111, 116, 104, 101, 114]⟩ _ HS9.out.P).mono ?_)
                              rw [tell_again]
                              rintro e W10 ⟨rfl, hP, hO⟩
                              have HS10 := Aside0.mk (HS9.out.only hP hO)
                              clear hP hO hy0 hy1
                              have HV : Aside0 (Calls Tryd.prog 21 #[.pointer (some ⟨g, 0, none⟩)] W10 fun e w' => e = .returned (.string a3) ∧ w' = W10) := ⟨value_calls g _ _ HS10.out.P⟩
                              go_wp2_with (go_at_call 21; refine HV.out.mono ?_; rintro e W11 ⟨rfl, rfl⟩)
                              go_ret
                              exact ⟨rfl, HS10.out.B⟩
                            · rw [if_neg hz] at HTL
                              have hzb : (!(q.best.c == 0) || (!(q.best.d == 0))) = true := ne00 hz
                              clear hz
                              have HVO := Aside0.mk (fun W => carillonlaw11_valueOf.calls q.best.c q.best.d (valB q.best.c q.best.d) W rfl)
                              go_wp2_with (go_at_call 13; refine (tell_calls g q a3 _ HS.out.1.P).mono ?_)
                              rw [HTL.out]
                              rintro e W9 ⟨rfl, hP, hO⟩
                              have HS9 := Aside0.mk (HS.out.1.only hP hO)
                              clear hP hO HTL
                              generalize valB q.best.c q.best.d = vv at HS9 HVO ⊢
                              obtain ⟨hy0, hy1, _, _⟩ := bx2 HS9.out.X1
                              go_wp2_with (go_at_call 22; refine (HVO.out _).mono ?_)
                              rintro e W12 ⟨rfl, hb⟩
                              have HS12 := Aside0.mk (HS9.out.below hb)
                              clear hb hy0 hy1
                              go_wp2_with (go_at_call 13; refine (tell_calls g _ ⟨#[97, 110, 111, 116, 104, 101, 114]⟩ _ HS12.out.P).mono ?_)
                              rw [tell_again]
                              rintro e W10 ⟨rfl, hP, hO⟩
                              have HS10 := Aside0.mk (HS12.out.only hP hO)
                              clear hP hO
                              have HV : Aside0 (Calls Tryd.prog 21 #[.pointer (some ⟨g, 0, none⟩)] W10 fun e w' => e = .returned (.string vv) ∧ w' = W10) := ⟨value_calls g _ _ HS10.out.P⟩
                              go_wp2_with (go_at_call 21; refine HV.out.mono ?_; rintro e W11 ⟨rfl, rfl⟩)
                              go_ret
                              exact ⟨rfl, HS10.out.B⟩

                      · have hd3 : decide ((d : Int) > p.best.d) = false := decide_eq_false hc4
                        have HLS := Aside0.mk (show ¬ LessP p.best.c p.best.d (1 + (c : Int)) (d : Int) from fun h => h.elim (fun h => by omega) (fun h => hc4 h.2))
                        clear hc1 hc2 hc4
                        have HPR := Aside0.mk (HS5.out.2.some_ hn7 k hk HPF.out c d hc3 hd7 p.best (by rw [if_neg HLS.out]))
                        have HS10 := HS9
                        go_wp2_with (go_at_call 11; refine (promise_he g p (k : Int) ⟨9, 3, 1 + (c : Int), (d : Int), valB (1 + (c : Int)) (d : Int)⟩ _ HS10.out.P HS10.out.T).mono ?_)
                        rw [HPR.out.1]
                        rintro e W10 ⟨rfl, hP, hO⟩
                        have HS6 := Aside0.mk (And.intro (HS10.out.only hP hO) HPR.out.2)
                        clear hP hO HPR hxa0 hxa1 hxa2 hxa3 hxa4 hfa0 hfa1 hfa2 hfa3 hfa4 hy0 hy1 hfy0 hfy1 hnb hnc HS9 HS10
                        have hlk : k < p.prom.length := by rw [HS5.out.2.l2]; omega
                        have hpk := HS6.out.1.prom k hlk
                        rw [HPF.out] at hpk
                        have hfr := blk_frozen HS6.out.1.X2 k
                        have HS7 := Aside0.mk (And.intro (HS6.out.1.setProm k) HS6.out.2)
                        have HM7 := Aside0.mk (show bcnt (p.prom.set k true) = m + 1 by rw [bcnt_set HPF.out hlk, HM.out])
                        clear HS6
                        by_cases hgo : 2 * (m + 1) ≤ n
                        · have hd1 : decide (2 * ((m : Int) + 1) > (n : Int)) = false := decide_eq_false (by omega)
                          go_wp2
                          go_roundg (l2.length - i)
                          case rel => exact ⟨i + 1, _, by omega, by rw [HM7.out]; go_num, by go_num, by omega, ⟨HS7.out⟩⟩
                          case measure => omega
                        · have hd1 : decide (2 * ((m : Int) + 1) > (n : Int)) = true := decide_eq_true (by omega)
                          have HS0 : Aside0 (VState w _ g b0 b1 gp n { p with prom := p.prom.set k true, best := p.best }) := ⟨HS7.out⟩
                          have HM0 : Aside0 (bcnt ({ p with prom := p.prom.set k true, best := p.best } : PrS).prom = m + 1) := ⟨HM7.out⟩
                          clear HS7 HM7 HS5
                          generalize ({ p with prom := p.prom.set k true, best := p.best } : PrS) = q at HS0 HM0
                          have HS := HS0
                          have HM := HM0
                          clear HS0 HM0
                          by_cases hf : 2 * (m + 1) ≤ n
                          · have hdec : decide (wrap64 (2 * ((m : Int) + 1)) ≤ (n : Int)) = true := decide_eq_true (by unfold wrap64; omega)
                            have hdec2 : decide (2 * ((m : Int) + 1) ≤ (n : Int)) = true := decide_eq_true (by omega)
                            have HTL := Aside0.mk (HS.out.2.few hn7 a3 (by rw [HM.out]; exact hf))
                            clear hf
                            go_wp2_with (go_at_call 13; refine (tell_calls g q a3 _ HS.out.1.P).mono ?_)
                            rw [HTL.out]
                            rintro e W9 ⟨rfl, hP, hO⟩
                            have HB9 := Aside0.mk (HS.out.1.only hP hO).B
                            clear hP hO
                            go_wp2
                            go_ret
                            exact ⟨rfl, HB9.out⟩
                          · have hdec : decide (wrap64 (2 * ((m : Int) + 1)) ≤ (n : Int)) = false := decide_eq_false (by unfold wrap64; omega)
                            have hdec2 : decide (2 * ((m : Int) + 1) ≤ (n : Int)) = false := decide_eq_false (by omega)
                            have HTL := Aside0.mk (HS.out.2.many hn7 a3 (by omega) (by rw [HM.out]; exact hf))
                            clear hf
                            rw [HS.out.2.want a3] at HTL
                            by_cases hz : q.best.c = 0 ∧ q.best.d = 0
                            · rw [if_pos hz] at HTL
                              have hzb : (!(q.best.c == 0) || (!(q.best.d == 0))) = false := eq00 hz
                              clear hz
                              go_wp2_with (go_at_call 13; refine (tell_calls g q a3 _ HS.out.1.P).mono ?_)
                              rw [HTL.out]
                              rintro e W9 ⟨rfl, hP, hO⟩
                              have HS9 := Aside0.mk (HS.out.1.only hP hO)
                              clear hP hO
                              obtain ⟨hy0, hy1, _, _⟩ := bx2 HS9.out.X1
                              go_wp2_with (go_at_call 13; refine (tell_calls g _ ⟨#[97, 110, 111, 116, 104, 101, 114]⟩ _ HS9.out.P).mono ?_)
                              rw [tell_again]
                              rintro e W10 ⟨rfl, hP, hO⟩
                              have HS10 := Aside0.mk (HS9.out.only hP hO)
                              clear hP hO hy0 hy1
                              have HV : Aside0 (Calls Tryd.prog 21 #[.pointer (some ⟨g, 0, none⟩)] W10 fun e w' => e = .returned (.string a3) ∧ w' = W10) := ⟨value_calls g _ _ HS10.out.P⟩
                              go_wp2_with (go_at_call 21; refine HV.out.mono ?_; rintro e W11 ⟨rfl, rfl⟩)
                              go_ret
                              exact ⟨rfl, HS10.out.B⟩
                            · rw [if_neg hz] at HTL
                              have hzb : (!(q.best.c == 0) || (!(q.best.d == 0))) = true := ne00 hz
                              clear hz
                              have HVO := Aside0.mk (fun W => carillonlaw11_valueOf.calls q.best.c q.best.d (valB q.best.c q.best.d) W rfl)
                              go_wp2_with (go_at_call 13; refine (tell_calls g q a3 _ HS.out.1.P).mono ?_)
                              rw [HTL.out]
                              rintro e W9 ⟨rfl, hP, hO⟩
                              have HS9 := Aside0.mk (HS.out.1.only hP hO)
                              clear hP hO HTL
                              generalize valB q.best.c q.best.d = vv at HS9 HVO ⊢
                              obtain ⟨hy0, hy1, _, _⟩ := bx2 HS9.out.X1
                              go_wp2_with (go_at_call 22; refine (HVO.out _).mono ?_)
                              rintro e W12 ⟨rfl, hb⟩
                              have HS12 := Aside0.mk (HS9.out.below hb)
                              clear hb hy0 hy1
                              go_wp2_with (go_at_call 13; refine (tell_calls g _ ⟨#[97, 110, 111, 116, 104, 101, 114]⟩ _ HS12.out.P).mono ?_)
                              rw [tell_again]
                              rintro e W10 ⟨rfl, hP, hO⟩
                              have HS10 := Aside0.mk (HS12.out.only hP hO)
                              clear hP hO
                              have HV : Aside0 (Calls Tryd.prog 21 #[.pointer (some ⟨g, 0, none⟩)] W10 fun e w' => e = .returned (.string vv) ∧ w' = W10) := ⟨value_calls g _ _ HS10.out.P⟩
                              go_wp2_with (go_at_call 21; refine HV.out.mono ?_; rintro e W11 ⟨rfl, rfl⟩)
                              go_ret
                              exact ⟨rfl, HS10.out.B⟩

                    · have hd2 : ((1 + (c : Int)) == p.best.c) = false := beq_eq_false_iff_ne.mpr hc2
                      have HLS := Aside0.mk (show ¬ LessP p.best.c p.best.d (1 + (c : Int)) (d : Int) from fun h => h.elim (fun h => by omega) (fun h => hc2 h.1.symm))
                      clear hc1 hc2
                      have HPR := Aside0.mk (HS5.out.2.some_ hn7 k hk HPF.out c d hc3 hd7 p.best (by rw [if_neg HLS.out]))
                      have HS10 := HS9
                      go_wp2_with (go_at_call 11; refine (promise_he g p (k : Int) ⟨9, 3, 1 + (c : Int), (d : Int), valB (1 + (c : Int)) (d : Int)⟩ _ HS10.out.P HS10.out.T).mono ?_)
                      rw [HPR.out.1]
                      rintro e W10 ⟨rfl, hP, hO⟩
                      have HS6 := Aside0.mk (And.intro (HS10.out.only hP hO) HPR.out.2)
                      clear hP hO HPR hxa0 hxa1 hxa2 hxa3 hxa4 hfa0 hfa1 hfa2 hfa3 hfa4 hy0 hy1 hfy0 hfy1 hnb hnc HS9 HS10
                      have hlk : k < p.prom.length := by rw [HS5.out.2.l2]; omega
                      have hpk := HS6.out.1.prom k hlk
                      rw [HPF.out] at hpk
                      have hfr := blk_frozen HS6.out.1.X2 k
                      have HS7 := Aside0.mk (And.intro (HS6.out.1.setProm k) HS6.out.2)
                      have HM7 := Aside0.mk (show bcnt (p.prom.set k true) = m + 1 by rw [bcnt_set HPF.out hlk, HM.out])
                      clear HS6
                      by_cases hgo : 2 * (m + 1) ≤ n
                      · have hd1 : decide (2 * ((m : Int) + 1) > (n : Int)) = false := decide_eq_false (by omega)
                        go_wp2
                        go_roundg (l2.length - i)
                        case rel => exact ⟨i + 1, _, by omega, by rw [HM7.out]; go_num, by go_num, by omega, ⟨HS7.out⟩⟩
                        case measure => omega
                      · have hd1 : decide (2 * ((m : Int) + 1) > (n : Int)) = true := decide_eq_true (by omega)
                        have HS0 : Aside0 (VState w _ g b0 b1 gp n { p with prom := p.prom.set k true, best := p.best }) := ⟨HS7.out⟩
                        have HM0 : Aside0 (bcnt ({ p with prom := p.prom.set k true, best := p.best } : PrS).prom = m + 1) := ⟨HM7.out⟩
                        clear HS7 HM7 HS5
                        generalize ({ p with prom := p.prom.set k true, best := p.best } : PrS) = q at HS0 HM0
                        have HS := HS0
                        have HM := HM0
                        clear HS0 HM0
                        by_cases hf : 2 * (m + 1) ≤ n
                        · have hdec : decide (wrap64 (2 * ((m : Int) + 1)) ≤ (n : Int)) = true := decide_eq_true (by unfold wrap64; omega)
                          have hdec2 : decide (2 * ((m : Int) + 1) ≤ (n : Int)) = true := decide_eq_true (by omega)
                          have HTL := Aside0.mk (HS.out.2.few hn7 a3 (by rw [HM.out]; exact hf))
                          clear hf
                          go_wp2_with (go_at_call 13; refine (tell_calls g q a3 _ HS.out.1.P).mono ?_)
                          rw [HTL.out]
                          rintro e W9 ⟨rfl, hP, hO⟩
                          have HB9 := Aside0.mk (HS.out.1.only hP hO).B
                          clear hP hO
                          go_wp2
                          go_ret
                          exact ⟨rfl, HB9.out⟩
                        · have hdec : decide (wrap64 (2 * ((m : Int) + 1)) ≤ (n : Int)) = false := decide_eq_false (by unfold wrap64; omega)
                          have hdec2 : decide (2 * ((m : Int) + 1) ≤ (n : Int)) = false := decide_eq_false (by omega)
                          have HTL := Aside0.mk (HS.out.2.many hn7 a3 (by omega) (by rw [HM.out]; exact hf))
                          clear hf
                          rw [HS.out.2.want a3] at HTL
                          by_cases hz : q.best.c = 0 ∧ q.best.d = 0
                          · rw [if_pos hz] at HTL
                            have hzb : (!(q.best.c == 0) || (!(q.best.d == 0))) = false := eq00 hz
                            clear hz
                            go_wp2_with (go_at_call 13; refine (tell_calls g q a3 _ HS.out.1.P).mono ?_)
                            rw [HTL.out]
                            rintro e W9 ⟨rfl, hP, hO⟩
                            have HS9 := Aside0.mk (HS.out.1.only hP hO)
                            clear hP hO
                            obtain ⟨hy0, hy1, _, _⟩ := bx2 HS9.out.X1
                            go_wp2_with (go_at_call 13; refine (tell_calls g _ ⟨#[97, 110, 111, 116, 104, 101, 114]⟩ _ HS9.out.P).mono ?_)
                            rw [tell_again]
                            rintro e W10 ⟨rfl, hP, hO⟩
                            have HS10 := Aside0.mk (HS9.out.only hP hO)
                            clear hP hO hy0 hy1
                            have HV : Aside0 (Calls Tryd.prog 21 #[.pointer (some ⟨g, 0, none⟩)] W10 fun e w' => e = .returned (.string a3) ∧ w' = W10) := ⟨value_calls g _ _ HS10.out.P⟩
                            go_wp2_with (go_at_call 21; refine HV.out.mono ?_; rintro e W11 ⟨rfl, rfl⟩)
                            go_ret
                            exact ⟨rfl, HS10.out.B⟩
                          · rw [if_neg hz] at HTL
                            have hzb : (!(q.best.c == 0) || (!(q.best.d == 0))) = true := ne00 hz
                            clear hz
                            have HVO := Aside0.mk (fun W => carillonlaw11_valueOf.calls q.best.c q.best.d (valB q.best.c q.best.d) W rfl)
                            go_wp2_with (go_at_call 13; refine (tell_calls g q a3 _ HS.out.1.P).mono ?_)
                            rw [HTL.out]
                            rintro e W9 ⟨rfl, hP, hO⟩
                            have HS9 := Aside0.mk (HS.out.1.only hP hO)
                            clear hP hO HTL
                            generalize valB q.best.c q.best.d = vv at HS9 HVO ⊢
                            obtain ⟨hy0, hy1, _, _⟩ := bx2 HS9.out.X1
                            go_wp2_with (go_at_call 22; refine (HVO.out _).mono ?_)
                            rintro e W12 ⟨rfl, hb⟩
                            have HS12 := Aside0.mk (HS9.out.below hb)
                            clear hb hy0 hy1
                            go_wp2_with (go_at_call 13; refine (tell_calls g _ ⟨#[97, 110, 111, 116, 104, 101, 114]⟩ _ HS12.out.P).mono ?_)
                            rw [tell_again]
                            rintro e W10 ⟨rfl, hP, hO⟩
                            have HS10 := Aside0.mk (HS12.out.only hP hO)
                            clear hP hO
                            have HV : Aside0 (Calls Tryd.prog 21 #[.pointer (some ⟨g, 0, none⟩)] W10 fun e w' => e = .returned (.string vv) ∧ w' = W10) := ⟨value_calls g _ _ HS10.out.P⟩
                            go_wp2_with (go_at_call 21; refine HV.out.mono ?_; rintro e W11 ⟨rfl, rfl⟩)
                            go_ret
                            exact ⟨rfl, HS10.out.B⟩


              · have hkb : decide ((k : Int) < (l1.length : Int)) = false := decide_eq_false (by omega)
                have HPR := Aside0.mk (HS5.out.2.none_ hn7 k hk HPF.out)
                go_wp2_with (go_at_call 11; refine (promise_he g p (k : Int) ⟨9, 3, 0, 0, ⟨#[]⟩⟩ _ (HS5.out.1.alloc _).P (HS5.out.1.alloc _).T).mono ?_)
                rw [HPR.out.1]
                rintro e W6 ⟨rfl, hP, hO⟩
                have HS6 := Aside0.mk (And.intro ((HS5.out.1.alloc _).only hP hO) HPR.out.2)
                clear hP hO HPR hz0 hz1 hpk
                have hlk : k < p.prom.length := by rw [HS5.out.2.l2]; omega
                have hpk := HS6.out.1.prom k hlk
                rw [HPF.out] at hpk
                have hfr := blk_frozen HS6.out.1.X2 k
                have HS7 := Aside0.mk (And.intro (HS6.out.1.setProm k) HS6.out.2)
                have HM7 := Aside0.mk (show bcnt (p.prom.set k true) = m + 1 by rw [bcnt_set HPF.out hlk, HM.out])
                clear HS6
                by_cases hgo : 2 * (m + 1) ≤ n
                · have hd1 : decide (2 * ((m : Int) + 1) > (n : Int)) = false := decide_eq_false (by omega)
                  go_wp2
                  go_roundg (l2.length - i)
                  case rel => exact ⟨i + 1, _, by omega, by rw [HM7.out]; go_num, by go_num, by omega, ⟨HS7.out⟩⟩
                  case measure => omega
                · have hd1 : decide (2 * ((m : Int) + 1) > (n : Int)) = true := decide_eq_true (by omega)
                  have HS0 : Aside0 (VState w _ g b0 b1 gp n { p with prom := p.prom.set k true }) := ⟨HS7.out⟩
                  have HM0 : Aside0 (bcnt ({ p with prom := p.prom.set k true } : PrS).prom = m + 1) := ⟨HM7.out⟩
                  clear HS7 HM7 HS5
                  generalize ({ p with prom := p.prom.set k true } : PrS) = q at HS0 HM0
                  have HS := HS0
                  have HM := HM0
                  clear HS0 HM0
                  by_cases hf : 2 * (m + 1) ≤ n
                  · have hdec : decide (wrap64 (2 * ((m : Int) + 1)) ≤ (n : Int)) = true := decide_eq_true (by unfold wrap64; omega)
                    have hdec2 : decide (2 * ((m : Int) + 1) ≤ (n : Int)) = true := decide_eq_true (by omega)
                    have HTL := Aside0.mk (HS.out.2.few hn7 a3 (by rw [HM.out]; exact hf))
                    clear hf
                    go_wp2_with (go_at_call 13; refine (tell_calls g q a3 _ HS.out.1.P).mono ?_)
                    rw [HTL.out]
                    rintro e W9 ⟨rfl, hP, hO⟩
                    have HB9 := Aside0.mk (HS.out.1.only hP hO).B
                    clear hP hO
                    go_wp2
                    go_ret
                    exact ⟨rfl, HB9.out⟩
                  · have hdec : decide (wrap64 (2 * ((m : Int) + 1)) ≤ (n : Int)) = false := decide_eq_false (by unfold wrap64; omega)
                    have hdec2 : decide (2 * ((m : Int) + 1) ≤ (n : Int)) = false := decide_eq_false (by omega)
                    have HTL := Aside0.mk (HS.out.2.many hn7 a3 (by omega) (by rw [HM.out]; exact hf))
                    clear hf
                    rw [HS.out.2.want a3] at HTL
                    by_cases hz : q.best.c = 0 ∧ q.best.d = 0
                    · rw [if_pos hz] at HTL
                      have hzb : (!(q.best.c == 0) || (!(q.best.d == 0))) = false := eq00 hz
                      clear hz
                      go_wp2_with (go_at_call 13; refine (tell_calls g q a3 _ HS.out.1.P).mono ?_)
                      rw [HTL.out]
                      rintro e W9 ⟨rfl, hP, hO⟩
                      have HS9 := Aside0.mk (HS.out.1.only hP hO)
                      clear hP hO
                      obtain ⟨hy0, hy1, _, _⟩ := bx2 HS9.out.X1
                      go_wp2_with (go_at_call 13; refine (tell_calls g _ ⟨#[97, 110, 111, 116, 104, 101, 114]⟩ _ HS9.out.P).mono ?_)
                      rw [tell_again]
                      rintro e W10 ⟨rfl, hP, hO⟩
                      have HS10 := Aside0.mk (HS9.out.only hP hO)
                      clear hP hO hy0 hy1
                      have HV : Aside0 (Calls Tryd.prog 21 #[.pointer (some ⟨g, 0, none⟩)] W10 fun e w' => e = .returned (.string a3) ∧ w' = W10) := ⟨value_calls g _ _ HS10.out.P⟩
                      go_wp2_with (go_at_call 21; refine HV.out.mono ?_; rintro e W11 ⟨rfl, rfl⟩)
                      go_ret
                      exact ⟨rfl, HS10.out.B⟩
                    · rw [if_neg hz] at HTL
                      have hzb : (!(q.best.c == 0) || (!(q.best.d == 0))) = true := ne00 hz
                      clear hz
                      have HVO := Aside0.mk (fun W => carillonlaw11_valueOf.calls q.best.c q.best.d (valB q.best.c q.best.d) W rfl)
                      go_wp2_with (go_at_call 13; refine (tell_calls g q a3 _ HS.out.1.P).mono ?_)
                      rw [HTL.out]
                      rintro e W9 ⟨rfl, hP, hO⟩
                      have HS9 := Aside0.mk (HS.out.1.only hP hO)
                      clear hP hO HTL
                      generalize valB q.best.c q.best.d = vv at HS9 HVO ⊢
                      obtain ⟨hy0, hy1, _, _⟩ := bx2 HS9.out.X1
                      go_wp2_with (go_at_call 22; refine (HVO.out _).mono ?_)
                      rintro e W12 ⟨rfl, hb⟩
                      have HS12 := Aside0.mk (HS9.out.below hb)
                      clear hb hy0 hy1
                      go_wp2_with (go_at_call 13; refine (tell_calls g _ ⟨#[97, 110, 111, 116, 104, 101, 114]⟩ _ HS12.out.P).mono ?_)
                      rw [tell_again]
                      rintro e W10 ⟨rfl, hP, hO⟩
                      have HS10 := Aside0.mk (HS12.out.only hP hO)
                      clear hP hO
                      have HV : Aside0 (Calls Tryd.prog 21 #[.pointer (some ⟨g, 0, none⟩)] W10 fun e w' => e = .returned (.string vv) ∧ w' = W10) := ⟨value_calls g _ _ HS10.out.P⟩
                      go_wp2_with (go_at_call 21; refine HV.out.mono ?_; rintro e W11 ⟨rfl, rfl⟩)
                      go_ret
                      exact ⟨rfl, HS10.out.B⟩

          · obtain rfl : i = l2.length := by omega
            clear hlt
            by_cases hf : 2 * m ≤ n
            · have hdec : decide (wrap64 (2 * (m : Int)) ≤ (n : Int)) = true := decide_eq_true (by unfold wrap64; omega)
              have hdec2 : decide (2 * (m : Int) ≤ (n : Int)) = true := decide_eq_true (by omega)
              have HTL := Aside0.mk (HS.out.2.few hn7 a3 (by rw [HM.out]; exact hf))
              clear hf
              go_wp2_with (go_at_call 13; refine (tell_calls g p a3 _ HS.out.1.P).mono ?_)
              rw [HTL.out]
              rintro e W9 ⟨rfl, hP, hO⟩
              have HB9 := Aside0.mk (HS.out.1.only hP hO).B
              clear hP hO
              go_wp2
              go_ret
              exact ⟨rfl, HB9.out⟩
            · have hdec : decide (wrap64 (2 * (m : Int)) ≤ (n : Int)) = false := decide_eq_false (by unfold wrap64; omega)
              have hdec2 : decide (2 * (m : Int) ≤ (n : Int)) = false := decide_eq_false (by omega)
              have HTL := Aside0.mk (HS.out.2.many hn7 a3 (by omega) (by rw [HM.out]; exact hf))
              clear hf
              rw [HS.out.2.want a3] at HTL
              by_cases hz : p.best.c = 0 ∧ p.best.d = 0
              · rw [if_pos hz] at HTL
                have hzb : (!(p.best.c == 0) || (!(p.best.d == 0))) = false := eq00 hz
                clear hz
                go_wp2_with (go_at_call 13; refine (tell_calls g p a3 _ HS.out.1.P).mono ?_)
                rw [HTL.out]
                rintro e W9 ⟨rfl, hP, hO⟩
                have HS9 := Aside0.mk (HS.out.1.only hP hO)
                clear hP hO
                obtain ⟨hy0, hy1, _, _⟩ := bx2 HS9.out.X1
                go_wp2_with (go_at_call 13; refine (tell_calls g _ ⟨#[97, 110, 111, 116, 104, 101, 114]⟩ _ HS9.out.P).mono ?_)
                rw [tell_again]
                rintro e W10 ⟨rfl, hP, hO⟩
                have HS10 := Aside0.mk (HS9.out.only hP hO)
                clear hP hO hy0 hy1
                have HV : Aside0 (Calls Tryd.prog 21 #[.pointer (some ⟨g, 0, none⟩)] W10 fun e w' => e = .returned (.string a3) ∧ w' = W10) := ⟨value_calls g _ _ HS10.out.P⟩
                go_wp2_with (go_at_call 21; refine HV.out.mono ?_; rintro e W11 ⟨rfl, rfl⟩)
                go_ret
                exact ⟨rfl, HS10.out.B⟩
              · rw [if_neg hz] at HTL
                have hzb : (!(p.best.c == 0) || (!(p.best.d == 0))) = true := ne00 hz
                clear hz
                have HVO := Aside0.mk (fun W => carillonlaw11_valueOf.calls p.best.c p.best.d (valB p.best.c p.best.d) W rfl)
                go_wp2_with (go_at_call 13; refine (tell_calls g p a3 _ HS.out.1.P).mono ?_)
                rw [HTL.out]
                rintro e W9 ⟨rfl, hP, hO⟩
                have HS9 := Aside0.mk (HS.out.1.only hP hO)
                clear hP hO HTL
                generalize valB p.best.c p.best.d = vv at HS9 HVO ⊢
                obtain ⟨hy0, hy1, _, _⟩ := bx2 HS9.out.X1
                go_wp2_with (go_at_call 22; refine (HVO.out _).mono ?_)
                rintro e W12 ⟨rfl, hb⟩
                have HS12 := Aside0.mk (HS9.out.below hb)
                clear hb hy0 hy1
                go_wp2_with (go_at_call 13; refine (tell_calls g _ ⟨#[97, 110, 111, 116, 104, 101, 114]⟩ _ HS12.out.P).mono ?_)
                rw [tell_again]
                rintro e W10 ⟨rfl, hP, hO⟩
                have HS10 := Aside0.mk (HS12.out.only hP hO)
                clear hP hO
                have HV : Aside0 (Calls Tryd.prog 21 #[.pointer (some ⟨g, 0, none⟩)] W10 fun e w' => e = .returned (.string vv) ∧ w' = W10) := ⟨value_calls g _ _ HS10.out.P⟩
                go_wp2_with (go_at_call 21; refine HV.out.mono ?_; rintro e W11 ⟨rfl, rfl⟩)
                go_ret
                exact ⟨rfl, HS10.out.B⟩

end Go.Proofs.YtnmcknfkmelnbaaDoor.P
