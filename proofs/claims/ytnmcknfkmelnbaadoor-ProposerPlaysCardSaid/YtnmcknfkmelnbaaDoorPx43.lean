import Derived.Test.YtnmcknfkmelnbaaDoorWalkR5
import Derived.Outline
import Derived.Laws.BitsAllLaws
import Derived.WalkSpells
import Derived.StillTailTactics
namespace Go.Proofs.YtnmcknfkmelnbaaDoor.P
open Go.RowKit Go.Proofs.YtnmcknfkmelnbaaDoorW.PrintWords Go.Proofs.YtnmcknfkmelnbaaDoorW.PrintLast Go.Proofs.YtnmcknfkmelnbaaDoorW.PrintMore
attribute [local go_sem] max2_int min2_int max_two min_two max_three min_three max_four min_four
set_option linter.unusedVariables false
set_option linter.unusedSimpArgs false
attribute [local go_sem high] eqA23
def plA.T21 : Bool × List (List Nat × List Nat) := (true, [([], []), ([], []), ([1], [1]), ([], []), ([3], [3]), ([0, 2, 4], [0, 2, 4]), ([], []), ([], []), ([7], [7]), ([], []), ([9], [9]), ([6, 8, 10, 5], [6, 8, 10]), ([5, 11], [5, 11]), ([12, 11, 0, 1, 2, 3, 4, 5, 6, 7, 8, 9, 10, 11, 12], [12])])
def plA.B21 : List Nat := [0, 0, 2, 0, 8, 31, 0, 0, 128, 0, 512, 2047, 4095, 8191]
theorem plA.tab21 : rtab .any (opsOf Tryd.f3 21) = plA.T21 := by kernel_rfl
theorem plA.bits21 : waitsOk plA.T21.2 plA.B21 = true := by kernel_rfl
def plC.T19 : Bool × List (List Nat × List Nat) := (true, [([], []), ([], []), ([1], [1]), ([0, 2], [0, 2]), ([], []), ([], []), ([5], [5]), ([4, 6, 3], [4, 6]), ([3, 7], [3, 7]), ([8, 7, 0, 1, 2, 3, 4, 5, 6, 7, 8], [8])])
def plC.B19 : List Nat := [0, 0, 2, 7, 0, 0, 32, 127, 255, 511]
theorem plC.tab19 : rtab .any (opsOf Tryd.f3 19) = plC.T19 := by kernel_rfl
theorem plC.bits19 : waitsOk plC.T19.2 plC.B19 = true := by kernel_rfl
theorem PrRf.promise' {p : PrS} {q : RfS} (h : PrRf p q) (x : Int) (a : AcS) : ∃ p2 q2 rb, p.promise x a = (p2, rb) ∧ q.promise x a = (q2, rb) ∧ PrRf p2 q2 := ⟨_, _, _, rfl, Prod.ext rfl (h.promise x a).1.symm, (h.promise x a).2⟩
theorem PrRf.taken' {p : PrS} {q : RfS} (h : PrRf p q) (x : Int) : ∃ p2 q2 rb, p.taken x = (p2, rb) ∧ q.taken x = (q2, rb) ∧ PrRf p2 q2 := ⟨_, _, _, rfl, Prod.ext rfl (h.taken x).1.symm, (h.taken x).2⟩
theorem PrRf.tell' {p : PrS} {q : RfS} (h : PrRf p q) (x : ByteArray) : ∃ p2 q2 sv er, p.tell x = (p2, sv, er) ∧ q.tell x = (q2, sv, er) ∧ PrRf p2 q2 := ⟨_, _, _, _, rfl, Prod.ext rfl (h.tell x).1.symm, (h.tell x).2⟩
def carillonlaw11_ProposerPlays.f (a0_0 a0_1 : Int) (l1 : List Int) (l2 : List S36) : Option Bool :=
  if l1.length * 8 ≤ 140737488351232 ∧ (l2.all fun x => inB x.f0) = true then some true else none
set_option maxHeartbeats 16000000 in
set_option maxRecDepth 100000 in
theorem plays_none (a0_0 a0_1 : Int) (A1 : Option Addr) (c1 : Nat) (l1 : List Int) (A2 : Option Addr) (c2 : Nat) (l2 : List S36) (w : World) (HR1 : Aside0 (Kd.C (Kd.int .i64) w A1 l1.length l1)) (hc1 : l1.length ≤ c1) (HR2 : Aside0 (Kd.C k36 w A2 l2.length l2)) (hc2 : l2.length ≤ c2) (HT0 : Aside0 (TabOk w)) (hL1 : l1.length * 8 ≤ 140737488351232) (HI2 : Aside0 ((l2.all fun x => inB x.f0) = true)) (HE : Aside0 (newP a0_0 a0_1 l1 = none ∧ newR a0_0 a0_1 l1 = none)) :
    Calls Tryd.prog 3 #[.agg #[.int .i64 a0_0, .int .i64 a0_1], .slice A1 l1.length c1, .slice A2 l2.length c2] w fun e w' => e = .returned (.bool true) ∧ Below w.heap.size w w' := by
  have HNW : Aside0 (∀ W A c, Kd.C (Kd.int .i64) W A l1.length l1 → l1.length ≤ c → Calls Tryd.prog 8 #[.agg #[.int .i64 a0_0, .int .i64 a0_1], .slice A l1.length c] W (NewPost W none)) := ⟨fun W A c h hc => by have := new_calls a0_0 a0_1 A c l1 W h hc; rw [HE.out.1] at this; exact this⟩
  have HRW : Aside0 (∀ W A c, Kd.C (Kd.int .i64) W A l1.length l1 → l1.length ≤ c → Calls Tryd.prog 9 #[.agg #[.int .i64 a0_0, .int .i64 a0_1], .slice A l1.length c] W (RNewPost W none)) := ⟨fun W A c h hc => by have := rnew_calls a0_0 a0_1 A c l1 W h hc (by omega); rw [HE.out.2] at this; exact this⟩
  have hm2 := HR2.out.2.1
  have h0lt : 0 < w.heap.size := World.block_lt_of_cell? w _ (HT0.out.siz0 0 (by decide))
  have HB0 := Aside0.mk (below_alloc (Below.refl w.heap.size w) (.cells #[.int .i64 a0_0, .int .i64 a0_1] 23))
  have HX0 := Aside0.mk (heap_alloc_new w (.cells #[.int .i64 a0_0, .int .i64 a0_1] 23))
  go_enter Tryd.func3, Tryd.ntmps3
  go_wp2_with (go_at_call 7; refine (examples_calls _ (HT0.out.below HB0.out)).mono ?_)
  rintro e W1 ⟨rfl, hB1⟩
  have HX1 := Aside0.mk (blk_below HX0.out hB1)
  have HB1 := Aside0.mk (HB0.out.trans (hB1.mono HB0.out.size))
  clear hB1 HX0 HB0
  go_wp2_with ((with_reducible refine gate_builtin (b := .append) (xs := #[.const (.slice none 0 0), .tmp 22]) rfl ?_); at_builtin; refine Kd.R_append_rows (Kd.int .i64) (w0 := w) w.heap.size rfl (.const (.slice none 0 0)) (.tmp 22) 24 3 (.int .i64 0) 8 rfl Tryd.underlying24 info3 rfl (by decide) (by omega) (.slice none 0 0) ([] : List Int) l1 A1 l1.length c1 (fun _ => True) (fun _ => False) rfl rfl ?aO ?aR (fun _ _ h => h) (fun _ h => h.elim) ?aF ?aB ?aS ?aL ?_)
  case aR => exact Kd.C_below HR1.out HB1.out
  case aB => exact HB1.out
  case aF => exact (fun _ _ => trivial)
  case aO => exact Kd.R_nil _ _ _ _ _
  case aS => exact HB1.out.size
  case aL => simp only [List.length_nil]; omega
  intro v1 W2 ho hb hg hat
  try rw [List.nil_append] at ho
  have HB2 := Aside0.mk hb
  have HO2 := Aside0.mk ho
  have HX2 := Aside0.mk (blk_grown HX1.out hg (by simp [Value.ownBlock]))
  clear ho hb hg hat HX1 HB1
  obtain ⟨Ao, co, eo, hco, hCo⟩ := Kd.R_reads HO2.out
  subst eo
  have HCo := Aside0.mk hCo
  clear hCo
  have hX2 := HX2.out
  obtain ⟨hx0, hx1, _, _⟩ := bx2 hX2
  clear hX2
  go_wp2_with (go_at_call 8; refine (HNW.out _ _ _ HCo.out hco).mono ?_)
  intro e W3 hN
  obtain ⟨hb, rfl⟩ := hN
  have HB3 := Aside0.mk (HB2.out.trans (hb.mono HB2.out.size))
  have HX3 := Aside0.mk (blk_below HX2.out hb)
  clear hb hx0 hx1 HX2 HB2
  obtain ⟨hx0, hx1, _, _⟩ := bx2 HX3.out
  go_wp2_with (go_at_call 9; refine (HRW.out _ _ _ (Kd.C_below HR1.out HB3.out) hc1).mono ?_)
  intro e W4 hN
  obtain ⟨hb, rfl⟩ := hN
  have HB4 := Aside0.mk (HB3.out.trans (hb.mono HB3.out.size))
  clear hb hx0 hx1 HX3 HB3
  go_wp2
  go_ret
  exact ⟨rfl, HB4.out⟩
set_option maxHeartbeats 16000000 in
set_option maxRecDepth 100000 in
theorem plays_some (a0_0 a0_1 : Int) (A1 : Option Addr) (c1 : Nat) (l1 : List Int) (A2 : Option Addr) (c2 : Nat) (l2 : List S36) (w : World) (HR1 : Aside0 (Kd.C (Kd.int .i64) w A1 l1.length l1)) (hc1 : l1.length ≤ c1) (HR2 : Aside0 (Kd.C k36 w A2 l2.length l2)) (hc2 : l2.length ≤ c2) (HT0 : Aside0 (TabOk w)) (hL1 : l1.length * 8 ≤ 140737488351232) (HI2 : Aside0 ((l2.all fun x => inB x.f0) = true)) (p0 : PrS) (q0 : RfS) (HE : Aside0 (newP a0_0 a0_1 l1 = some p0 ∧ newR a0_0 a0_1 l1 = some q0)) (HQ0 : Aside0 (PrRf p0 q0)) (hne : l1 ≠ []) :
    Calls Tryd.prog 3 #[.agg #[.int .i64 a0_0, .int .i64 a0_1], .slice A1 l1.length c1, .slice A2 l2.length c2] w fun e w' => e = .returned (.bool true) ∧ Below w.heap.size w w' := by
  have HNW : Aside0 (∀ W A c, Kd.C (Kd.int .i64) W A l1.length l1 → l1.length ≤ c → Calls Tryd.prog 8 #[.agg #[.int .i64 a0_0, .int .i64 a0_1], .slice A l1.length c] W (NewPost W (some p0))) := ⟨fun W A c h hc => by have := new_calls a0_0 a0_1 A c l1 W h hc; rw [HE.out.1] at this; exact this⟩
  have HRW : Aside0 (∀ W A c, Kd.C (Kd.int .i64) W A l1.length l1 → l1.length ≤ c → Calls Tryd.prog 9 #[.agg #[.int .i64 a0_0, .int .i64 a0_1], .slice A l1.length c] W (RNewPost W (some q0))) := ⟨fun W A c h hc => by have := rnew_calls a0_0 a0_1 A c l1 W h hc (by omega); rw [HE.out.2] at this; exact this⟩
  have hpos : 0 < l1.length := by cases l1 with
    | nil => exact absurd rfl hne
    | cons a l => simp
  clear hne
  have hm2 := HR2.out.2.1
  have h0lt : 0 < w.heap.size := World.block_lt_of_cell? w _ (HT0.out.siz0 0 (by decide))
  have HB0 := Aside0.mk (below_alloc (Below.refl w.heap.size w) (.cells #[.int .i64 a0_0, .int .i64 a0_1] 23))
  have HX0 := Aside0.mk (heap_alloc_new w (.cells #[.int .i64 a0_0, .int .i64 a0_1] 23))
  go_enter Tryd.func3, Tryd.ntmps3
  go_wp2_with (go_at_call 7; refine (examples_calls _ (HT0.out.below HB0.out)).mono ?_)
  rintro e W1 ⟨rfl, hB1⟩
  have HX1 := Aside0.mk (blk_below HX0.out hB1)
  have HB1 := Aside0.mk (HB0.out.trans (hB1.mono HB0.out.size))
  clear hB1 HX0 HB0
  go_wp2_with ((with_reducible refine gate_builtin (b := .append) (xs := #[.const (.slice none 0 0), .tmp 22]) rfl ?_); at_builtin; refine Kd.R_append_rows (Kd.int .i64) (w0 := w) w.heap.size rfl (.const (.slice none 0 0)) (.tmp 22) 24 3 (.int .i64 0) 8 rfl Tryd.underlying24 info3 rfl (by decide) (by omega) (.slice none 0 0) ([] : List Int) l1 A1 l1.length c1 (fun _ => True) (fun _ => False) rfl rfl ?aO ?aR (fun _ _ h => h) (fun _ h => h.elim) ?aF ?aB ?aS ?aL ?_)
  case aR => exact Kd.C_below HR1.out HB1.out
  case aB => exact HB1.out
  case aF => exact (fun _ _ => trivial)
  case aO => exact Kd.R_nil _ _ _ _ _
  case aS => exact HB1.out.size
  case aL => simp only [List.length_nil]; omega
  intro v1 W2 ho hb hg hat
  try rw [List.nil_append] at ho
  have HB2 := Aside0.mk hb
  have HO2 := Aside0.mk ho
  have HX2 := Aside0.mk (blk_grown HX1.out hg (by simp [Value.ownBlock]))
  clear ho hb hg hat HX1 HB1
  obtain ⟨ko, ck, ek, hkb, hkl, -⟩ := Kd.R_form HO2.out hpos
  subst ek
  have hco : l1.length ≤ ck := (Kd.R_reads' HO2.out).2.1
  obtain ⟨hx0, hx1, _, _⟩ := bx2 HX2.out
  go_wp2_with (go_at_call 8; refine (HNW.out _ _ _ (Kd.R_reads' HO2.out).2.2 hco).mono ?_)
  intro e W3 hN
  obtain ⟨hb, gp, hgp, rfl, hP⟩ := hN
  have HB3 := Aside0.mk (HB2.out.trans (hb.mono HB2.out.size))
  have HX3 := Aside0.mk (blk_below HX2.out hb)
  have HO3 := Aside0.mk (Kd.R_below HO2.out hb)
  have HP3 := Aside0.mk hP
  have hkgp : ko < gp := Nat.lt_of_lt_of_le hkl hgp
  have hgps := hP.lt
  have hwgp : w.heap.size ≤ gp := Nat.le_trans HB2.out.size hgp
  clear hb hP hx0 hx1 HX2 HB2 hgp HO2
  obtain ⟨hx0, hx1, _, _⟩ := bx2 HX3.out
  go_wp2_with (go_at_call 9; refine (HRW.out _ _ _ (Kd.C_below HR1.out HB3.out) hc1).mono ?_)
  intro e W4 hN
  obtain ⟨hb, b, g, Vn, hbb, rfl, hQ⟩ := hN
  have HB4 := Aside0.mk (HB3.out.trans (hb.mono HB3.out.size))
  have HO4 := Aside0.mk (Kd.R_below HO3.out hb)
  have HL4 : Aside0 (PlIs w W4 gp b g p0 q0 Vn (.slice none 0 0) (.slice none 0 0)) := ⟨⟨HP3.out.below hb, hQ, HT0.out.below HB4.out, HB4.out, hwgp, Nat.lt_of_lt_of_le hgps hbb, h0lt⟩⟩
  clear hb hbb hQ hx0 hx1 HX3 HB3 hgps HP3 HO3 HB4 HT0 HNW HRW
  go_wp2
  go_loopg [12] (l1.length + 1) (fun kq v12 W => ∃ (k : Nat) (xs : List Int), k ≤ l1.length ∧ v12 = .int .i64 (k : Int) ∧ l1.length - k < kq ∧ xs.length = l1.length ∧ Aside0 (Kd.R (Kd.int .i64) 3 W w.heap.size (fun _ => True) (.slice (some ⟨ko, 0, none⟩) l1.length ck) xs) ∧ Aside0 (PlIs w W gp b g p0 q0 Vn (.slice none 0 0) (.slice none 0 0)))
  case atStart => exact ⟨0, l1, Nat.zero_le _, rfl, by omega, rfl, HO4, HL4⟩
  case round =>
    obtain ⟨k, xs, hk, rfl, hq, hxl, HO, HL⟩ := hrel
    rename World => Wr
    clear HO4 HL4
    by_cases hlt : k < l1.length
    · obtain ⟨hcc, hcf⟩ := Kd.R_cell (enc := Value.int .i64) (h1 := fun _ => rfl) (0 : Int) (cap := ck) (by rw [hxl]; exact HO.out) (k : Int) (by omega) (by omega)
      rw [show ((k : Int)).toNat = k from rfl] at hcc hcf
      have hput := (Kd.R_put (enc := Value.int .i64) (h1 := fun _ => rfl) (cap := ck) (show Kd.R (Kd.int .i64) 3 Wr w.heap.size (fun _ => True) (.slice (some ⟨ko, 0, none⟩) xs.length ck) xs by rw [hxl]; exact HO.out) (k : Int) 99).1
      rw [show ((k : Int)).toNat = k from rfl, hxl] at hput
      have HPU := Aside0.mk hput
      have HL2 := Aside0.mk (HL.out.away ((Only.refl Wr _).set_ k (.int .i64 99)) hkgp hkb)
      clear hput
      go_wp2
      go_roundg (l1.length - k)
      case rel => exact ⟨k + 1, xs.set k 99, by omega, by go_num, by omega, by rw [List.length_set]; exact hxl, HPU, HL2⟩
      case measure => omega
    · obtain rfl : k = l1.length := by omega
      have hltf : decide ((l1.length : Int) < (l1.length : Int)) = false := decide_eq_false (by omega)
      clear hxl hq hlt HO
      go_wp2
      go_loopg [13] (l2.length + 1) (fun kq v13 W => ∃ (i : Nat) (p : PrS) (q : RfS) (Vp Vc : Value), i ≤ l2.length ∧ v13 = .int .i64 (i : Int) ∧ l2.length - i < kq ∧ Aside0 (PrRf p q) ∧ Aside0 (PlIs w W gp b g p q Vn Vp Vc))
      case atStart => exact ⟨0, p0, q0, _, _, Nat.zero_le _, rfl, by omega, HQ0, HL⟩
      case round =>
        obtain ⟨i, p, q, Vp, Vc, hi, rfl, hq, HQ, HL2⟩ := hrel
        clear HL
        by_cases hlt : i < l2.length ∧ i < 100
        · obtain ⟨hl, hl3⟩ := hlt
          have hd1 : decide ((i : Int) < (l2.length : Int)) = true := decide_eq_true (by omega)
          have hd2 : decide ((i : Int) < 100) = true := decide_eq_true (by omega)
          obtain ⟨ad, e0, ht0, ht1, ht2, ht3, ht4, ht5, ht6, ht7⟩ := at_T36 (Kd.C_below HR2.out HL2.out.B) (i : Int) (by omega) (by omega)
          cases e0
          have hyb : inB (rd_T36 l2 (i : Int)).f0 = true := by
            have h1 := HI2.out
            rw [List.all_eq_true] at h1
            refine h1 _ ?_
            show l2.getD _ _ ∈ l2
            rw [show ((i : Int)).toNat = i from rfl, List.getD_eq_getElem?_getD, List.getElem?_eq_getElem hl]
            exact List.getElem_mem hl
          rw [show ((i : Int)).toNat = i from rfl] at ht0 ht1 ht2 ht3 ht4 ht5 ht6 ht7
          generalize rd_T36 l2 (i : Int) = y at ht0 ht1 ht2 ht3 ht4 ht5 ht6 ht7 hyb
          obtain ⟨yk, yn, ⟨⟨ya, yb⟩, ⟨yc, yd⟩, ys⟩, yt⟩ := y
          dsimp only at ht0 ht1 ht2 ht3 ht4 ht5 ht6 ht7 hyb
          rename_i Wd _
          obtain ⟨kd, hkd⟩ : ∃ kd, pickN yk 3 = kd := ⟨_, rfl⟩
          have hk3 : kd < 3 := by rw [← hkd]; exact pickN_lt yk 3 (by decide)
          have HPK := Aside0.mk (fun W => pick_calls yk 3 W hyb (by decide) (by decide))
          simp only [hkd] at HPK
          clear hkd hyb
          have HBX0 := Aside0.mk (heap_alloc_new wr (.cells #[.int .i64 yk, .int .i64 yn, .int .i64 ya, .int .i64 yb, .int .i64 yc, .int .i64 yd, .string ys, .string yt] 36))
          have HLa := Aside0.mk (HL2.out.alloc (.cells #[.int .i64 yk, .int .i64 yn, .int .i64 ya, .int .i64 yb, .int .i64 yc, .int .i64 yd, .string ys, .string yt] 36))
          go_wp2_with (go_at_call 10; refine (HPK.out _).mono ?_)
          rintro e W5 ⟨rfl, m5, rfl⟩
          have HBb := Aside0.mk (blk_drewN HBX0.out m5)
          have HLb := Aside0.mk (HLa.out.drewN m5)
          generalize (wr.alloc (.cells #[.int .i64 yk, .int .i64 yn, .int .i64 ya, .int .i64 yb, .int .i64 yc, .int .i64 yd, .string ys, .string yt] 36)).drewN m5 = W5 at HBb HLb ⊢
          generalize wr.heap.size = gd at HBb ⊢
          clear HBX0 HLa HL2 ht0 ht1 ht2 ht3 ht4 ht5 ht6 ht7 HPK
          obtain ⟨z0, z1, z2, z3, z4, z5, z6, z7, _, _, _, _, _, _, _, _⟩ := bx8 HBb.out
          have hkk : kd = 0 ∨ kd = 1 ∨ kd = 2 := by omega
          rcases hkk with hkk | hkk | hkk
          · have hk0 : ((kd : Int) == 0) = true := beq_iff_eq.mpr (by omega)
            obtain ⟨p2, q2, rb, hp2, hq2, hr2⟩ := HQ.out.promise' yn ⟨ya, yb, yc, yd, ys⟩
            have HC1 : Aside0 (∀ W, PlIs w W gp b g p q Vn Vp Vc → Calls Tryd.prog 11 #[.pointer (some ⟨gp, 0, none⟩), .int .i64 yn, .agg #[.int .i64 ya, .int .i64 yb, .int .i64 yc, .int .i64 yd, .string ys]] W fun e w' => e = .returned (.bool rb) ∧ PrIs w' gp p2 ∧ Only W w' (· = gp)) := ⟨fun W h => by have := promise_he gp p yn ⟨ya, yb, yc, yd, ys⟩ W h.P h.T; rw [hp2] at this; exact this⟩
            have HC2 : Aside0 (∀ W, PlIs w W gp b g p2 q Vn Vp Vc → Calls Tryd.prog 12 #[.pointer (some ⟨g, 0, none⟩), .int .i64 yn, .agg #[.int .i64 ya, .int .i64 yb, .int .i64 yc, .int .i64 yd, .string ys]] W fun e w' => e = .returned (.bool rb) ∧ (∃ Vp', RfIs w' b g q2 Vn Vp' Vc) ∧ Only W w' (fun k => k = g ∨ Vp.ownBlock = some k)) := ⟨fun W h => by have := rprom_calls b g q Vn Vp Vc yn ⟨ya, yb, yc, yd, ys⟩ W h.Q HQ.out.short; rw [hq2] at this; exact this⟩
            have HQ2 := Aside0.mk hr2
            clear hr2 hp2 hq2
            have hbb : (rb == rb) = true := by simp
            have HLd := Aside0.mk HLb.out.drew
            have HBd := Aside0.mk (blk_drew HBb.out)
            go_wp2
            refine start_ (n := 14) (S := fun W => W.heap[gd]? = some (.cells #[.int .i64 yk, .int .i64 yn, .int .i64 ya, .int .i64 yb, .int .i64 yc, .int .i64 yd, .string ys, .string yt] 36 (0, 0))) (ds := []) (bz 14 0) (by kernel_rfl) rfl rfl HBd.out (fun hHeld => ?_); refine with_tabW plA.tab21 plA.bits21 (fun HT_ HW_ => ?_)
            generalize W5.drew = W6 at hHeld HLd ⊢
            refine pu_ 0 (some 87) (bz 14 1) HT_.out ?_
            refine pu_ 1 (some 88) (bz 14 3) HT_.out ?_
            refine pu_ 3 (some 90) (bz 14 11) HT_.out ?_
            refine pu_ 6 (some 93) (bz 14 75) HT_.out ?_
            refine pu_ 7 (some 94) (bz 14 203) HT_.out ?_
            refine pu_ 9 (some 96) (bz 14 715) HT_.out ?_
            refine take_ (i := 2) (N := (some 89)) (v := ?_) (a' := ?_) (bz 14 719) rfl rfl (take_ofW HT_.out HW_.out (by kernel_rfl)) (fun _ _ _ h => h) (Or.inl ⟨by rfl, ?_⟩) hHeld ?_ ?_
            rotate_left
            · rintro w' s0
              obtain ⟨z0, z1, z2, z3, z4, z5, z6, z7, _, _, _, _, _, _, _, _⟩ := bx8 s0
              go_simp
              with_reducible rfl
            rotate_left
            · simp only [Act.put, sl1, sl2, sl3, i64_w, i32_w]
              rfl
            refine take_ (i := 4) (N := (some 91)) (v := ?_) (a' := ?_) (bz 14 735) rfl rfl (take_ofW HT_.out HW_.out (by kernel_rfl)) (fun _ _ _ h => h) (Or.inl ⟨by rfl, ?_⟩) hHeld ?_ ?_
            rotate_left
            · rintro w' s0
              obtain ⟨z0, z1, z2, z3, z4, z5, z6, z7, _, _, _, _, _, _, _, _⟩ := bx8 s0
              go_simp
              with_reducible rfl
            rotate_left
            · simp only [Act.put, sl1, sl2, sl3, i64_w, i32_w]
              rfl
            refine take_ (i := 8) (N := (some 95)) (v := ?_) (a' := ?_) (bz 14 991) rfl rfl (take_ofW HT_.out HW_.out (by kernel_rfl)) (fun _ _ _ h => h) (Or.inl ⟨by rfl, ?_⟩) hHeld ?_ ?_
            rotate_left
            · rintro w' s0
              obtain ⟨z0, z1, z2, z3, z4, z5, z6, z7, _, _, _, _, _, _, _, _⟩ := bx8 s0
              go_simp
              with_reducible rfl
            rotate_left
            · simp only [Act.put, sl1, sl2, sl3, i64_w, i32_w]
              rfl
            refine take_ (i := 10) (N := (some 97)) (v := ?_) (a' := ?_) (bz 14 2015) rfl rfl (take_ofW HT_.out HW_.out (by kernel_rfl)) (fun _ _ _ h => h) (Or.inl ⟨by rfl, ?_⟩) hHeld ?_ ?_
            rotate_left
            · rintro w' s0
              obtain ⟨z0, z1, z2, z3, z4, z5, z6, z7, _, _, _, _, _, _, _, _⟩ := bx8 s0
              go_simp
              with_reducible rfl
            rotate_left
            · simp only [Act.put, sl1, sl2, sl3, i64_w, i32_w]
              rfl
            refine one_ (i := 5) (N := (some 92)) (bz 14 2047) rfl rfl (one_of HT_.out (by kernel_rfl)) (by decide) (fun K hK => ?_)
            refine goes_ Tryd.func11 (by kernel_rfl) rfl #[.pointer (some ⟨gp, 0, none⟩), .int .i64 yn, .agg #[.int .i64 ya, .int .i64 yb, .int .i64 yc, .int .i64 yd, .string ys]] (by rfl) rfl rfl am ?_
            refine (HC1.out _ HLd.out).mono ?_
            rintro e w1 ⟨rfl, hP, hO⟩
            refine ⟨_, rfl, ?_⟩
            have HL7 := Aside0.mk (HLd.out.stepP hP hO)
            refine hK.out _ _ (HLd.out.boxP hHeld hO (by decide)) (fun hHeld => ?_)
            clear hK K
            refine norm_ (a' := ?_) ?_ ?_
            rotate_left
            · show Act.put _ (some 92) _ = _
              simp only [Act.put, sl1, sl2, sl3, i64_w, i32_w]
              rfl
            refine one_ (i := 11) (N := (some 98)) (bz 14 4095) rfl rfl (one_of HT_.out (by kernel_rfl)) (by decide) (fun K hK => ?_)
            refine goes_ Tryd.func12 (by kernel_rfl) rfl #[.pointer (some ⟨g, 0, none⟩), .int .i64 yn, .agg #[.int .i64 ya, .int .i64 yb, .int .i64 yc, .int .i64 yd, .string ys]] (by rfl) rfl rfl am ?_
            refine (HC2.out _ HL7.out).mono ?_
            rintro e w2 ⟨rfl, ⟨Vp2, hQ⟩, hO2⟩
            refine ⟨_, rfl, ?_⟩
            have HL8 := Aside0.mk (HL7.out.stepQ hQ hO2 HL7.out.geP)
            refine hK.out _ _ (HL7.out.boxVp hHeld hO2 (by decide) (by decide)) (fun hHeld => ?_)
            clear hK K
            refine norm_ (a' := ?_) ?_ ?_
            rotate_left
            · show Act.put _ (some 98) _ = _
              simp only [Act.put, sl1, sl2, sl3, i64_w, i32_w]
              rfl
            refine pu_ 12 (some 99) (bz 14 8191) HT_.out ?_
            refine pu_ 13 (some 15) (bz 14 16383) HT_.out ?_
            refine done_ (done_of HT_.out (by kernel_rfl)) ?_
            clear HT_ HW_ z0 z1 z2 z3 z4 z5 z6 z7
            obtain ⟨Vq, Vr, HL9⟩ : ∃ Vq Vr, Aside0 (PlIs w w2 gp b g p2 q2 Vn Vq Vr) := ⟨_, _, HL8⟩
            obtain ⟨ms, hmp, hmq⟩ : ∃ ms, p2.missing = ms ∧ q2.missing = ms := ⟨_, HQ2.out.missing, rfl⟩
            have HMP : Aside0 (∀ W, PrIs W gp p2 → Calls Tryd.prog 18 #[.pointer (some ⟨gp, 0, none⟩)] W fun e w' => (∃ A, e = .returned (.slice A ms.length ms.length) ∧ Kd.C (Kd.int .i64) w' A ms.length ms) ∧ Below W.heap.size W w') := ⟨fun W h => by have := missing_calls gp p2 W h; rw [hmp] at this; exact this⟩
            have HMQ : Aside0 (∀ W, RfIs W b g q2 Vn Vq Vr → Calls Tryd.prog 19 #[.pointer (some ⟨g, 0, none⟩)] W fun e w' => (∃ v, e = .returned v ∧ Kd.R (Kd.int .i64) 3 w' W.heap.size (fun _ => True) v ms) ∧ Below W.heap.size W w') := ⟨fun W h => by have := rmiss_calls b g q2 Vn Vq Vr W h HQ2.out.short; unfold RMissPost at this; rw [hmq] at this; exact this⟩
            clear hmp hmq
            go_wp2_with (go_at_call 18; refine (HMP.out _ HL9.out.P).mono ?_)
            rintro e W7 ⟨⟨A7, rfl, hC7⟩, hb7⟩
            have HLA := Aside0.mk (HL9.out.below hb7)
            have HC7 := Aside0.mk hC7
            clear hC7 hb7
            go_wp2_with (go_at_call 19; refine (HMQ.out _ HLA.out.Q).mono ?_)
            rintro e W8 ⟨⟨v8, rfl, hR8⟩, hb8⟩
            obtain ⟨A8, c8, e8, hc8, hC8⟩ := Kd.R_reads hR8
            subst e8
            have HN8 := Aside0.mk (numbers_calls A7 _ A8 c8 ms W8 (Kd.C_below HC7.out hb8) (Nat.le_refl _) hC8 hc8)
            have HLB := Aside0.mk (HLA.out.below hb8)
            clear hR8 hb8 hc8 hC8 HMP HMQ
            go_wp2_with (go_at_call 17; refine HN8.out.mono ?_)
            rintro e W9 ⟨rfl, m9, rfl⟩
            have HLC := Aside0.mk (HLB.out.drewN m9)
            generalize W8.drewN m9 = W9 at HLC ⊢
            clear HN8 HLB HLA HL9 HC7
            have HSt : Aside0 (∀ a, Calls Tryd.prog 20 #[.pointer (some ⟨gp, 0, none⟩)] (W9.drewN a) fun e w' => e = .returned (.int .i64 q2.st) ∧ ∃ m, w' = (W9.drewN a).drewN m) := ⟨fun a => (state_calls gp p2 _ (HLC.out.drewN a).P).mono (fun e w' ⟨h1, h2⟩ => ⟨by rw [h1, HQ2.out.st], 0, h2⟩)⟩
            have HVa : Aside0 (∀ a, Calls Tryd.prog 21 #[.pointer (some ⟨gp, 0, none⟩)] (W9.drewN a) fun e w' => e = .returned (.string q2.val) ∧ ∃ m, w' = (W9.drewN a).drewN m) := ⟨fun a => (value_calls gp p2 _ (HLC.out.drewN a).P).mono (fun e w' ⟨h1, h2⟩ => ⟨by rw [h1, HQ2.out.val], 0, h2⟩)⟩
            obtain ⟨h0, h1, h2, h3, h4, h5, h6, h7, h8, h9, h10, h11⟩ := HLC.out.Q.cells
            have hs1 : (q2.st != q2.st) = false := bne_self_eq_false _
            have hv1 : (q2.val.toList != q2.val.toList) = false := bne_self_eq_false _
            clear h0 h1 h2 h3 h4 h5 h6 h7 h8 h9
            go_wp2
            go_quiet (first | (go_at_call 20; with_reducible exact Calls.quiet_of (HSt.out _)) | (go_at_call 21; with_reducible exact Calls.quiet_of (HVa.out _)) | fail)
            clear HSt HVa h10 h11 hs1 hv1
            have HLD := Aside0.mk (HLC.out.drewN nq)
            generalize W9.drewN nq = W10 at HLD ⊢
            go_wp2
            go_roundg (l2.length - i)
            case rel => exact ⟨i + 1, p2, q2, Vq, Vr, by omega, by go_num, by omega, HQ2, HLD⟩
            case measure => omega
          · have hk0 : ((kd : Int) == 0) = false := beq_eq_false_iff_ne.mpr (by omega)
            have hk1 : ((kd : Int) == 1) = true := beq_iff_eq.mpr (by omega)
            obtain ⟨p2, q2, sv, er, hp2, hq2, hr2⟩ := HQ.out.tell' yt
            have HC1 : Aside0 (∀ W, PlIs w W gp b g p q Vn Vp Vc → Calls Tryd.prog 13 #[.pointer (some ⟨gp, 0, none⟩), .string yt] W fun e w' => e = .returned (.tuple #[.string sv, .int .i64 er]) ∧ PrIs w' gp p2 ∧ Only W w' (· = gp)) := ⟨fun W h => by have := tell_calls gp p yt W h.P; rw [hp2] at this; exact this⟩
            have HC2 : Aside0 (∀ W, PlIs w W gp b g p2 q Vn Vp Vc → Calls Tryd.prog 14 #[.pointer (some ⟨g, 0, none⟩), .string yt] W fun e w' => e = .returned (.tuple #[.string sv, .int .i64 er]) ∧ RfIs w' b g q2 Vn Vp Vc ∧ Only W w' (· = g)) := ⟨fun W h => by have := rtell_calls b g q Vn Vp Vc yt W h.Q HQ.out.short; rw [hq2] at this; exact this⟩
            have HQ2 := Aside0.mk hr2
            clear hr2 hp2 hq2
            have hbb : (er == er) = true := by simp
            have hbs : (sv.toList == sv.toList) = true := by simp
            go_wp2_with (go_at_call 13; refine (HC1.out _ HLb.out).mono ?_)
            rintro e w1 ⟨rfl, hP, hO⟩
            have HL7 := Aside0.mk (HLb.out.stepP hP hO)
            have HB7 := Aside0.mk (HLb.out.boxP HBb.out hO (by decide))
            clear hP hO z0 z1 z2 z3 z4 z5 z6 z7
            obtain ⟨z0, z1, z2, z3, z4, z5, z6, z7, _, _, _, _, _, _, _, _⟩ := bx8 HB7.out
            go_wp2_with (go_at_call 14; refine (HC2.out _ HL7.out).mono ?_)
            rintro e w2 ⟨rfl, hQ, hO2⟩
            have HL8 := Aside0.mk (HL7.out.stepQ hQ hO2 (fun i e => by rw [e]; exact HL7.out.Q.ge))
            clear hQ hO2 z0 z1 z2 z3 z4 z5 z6 z7
            obtain ⟨Vq, Vr, HL9⟩ : ∃ Vq Vr, Aside0 (PlIs w w2 gp b g p2 q2 Vn Vq Vr) := ⟨_, _, HL8⟩
            obtain ⟨ms, hmp, hmq⟩ : ∃ ms, p2.missing = ms ∧ q2.missing = ms := ⟨_, HQ2.out.missing, rfl⟩
            have HMP : Aside0 (∀ W, PrIs W gp p2 → Calls Tryd.prog 18 #[.pointer (some ⟨gp, 0, none⟩)] W fun e w' => (∃ A, e = .returned (.slice A ms.length ms.length) ∧ Kd.C (Kd.int .i64) w' A ms.length ms) ∧ Below W.heap.size W w') := ⟨fun W h => by have := missing_calls gp p2 W h; rw [hmp] at this; exact this⟩
            have HMQ : Aside0 (∀ W, RfIs W b g q2 Vn Vq Vr → Calls Tryd.prog 19 #[.pointer (some ⟨g, 0, none⟩)] W fun e w' => (∃ v, e = .returned v ∧ Kd.R (Kd.int .i64) 3 w' W.heap.size (fun _ => True) v ms) ∧ Below W.heap.size W w') := ⟨fun W h => by have := rmiss_calls b g q2 Vn Vq Vr W h HQ2.out.short; unfold RMissPost at this; rw [hmq] at this; exact this⟩
            clear hmp hmq
            go_wp2_with (go_at_call 18; refine (HMP.out _ HL9.out.P).mono ?_)
            rintro e W7 ⟨⟨A7, rfl, hC7⟩, hb7⟩
            have HLA := Aside0.mk (HL9.out.below hb7)
            have HC7 := Aside0.mk hC7
            clear hC7 hb7
            go_wp2_with (go_at_call 19; refine (HMQ.out _ HLA.out.Q).mono ?_)
            rintro e W8 ⟨⟨v8, rfl, hR8⟩, hb8⟩
            obtain ⟨A8, c8, e8, hc8, hC8⟩ := Kd.R_reads hR8
            subst e8
            have HN8 := Aside0.mk (numbers_calls A7 _ A8 c8 ms W8 (Kd.C_below HC7.out hb8) (Nat.le_refl _) hC8 hc8)
            have HLB := Aside0.mk (HLA.out.below hb8)
            clear hR8 hb8 hc8 hC8 HMP HMQ
            go_wp2_with (go_at_call 17; refine HN8.out.mono ?_)
            rintro e W9 ⟨rfl, m9, rfl⟩
            have HLC := Aside0.mk (HLB.out.drewN m9)
            generalize W8.drewN m9 = W9 at HLC ⊢
            clear HN8 HLB HLA HL9 HC7
            have HSt : Aside0 (∀ a, Calls Tryd.prog 20 #[.pointer (some ⟨gp, 0, none⟩)] (W9.drewN a) fun e w' => e = .returned (.int .i64 q2.st) ∧ ∃ m, w' = (W9.drewN a).drewN m) := ⟨fun a => (state_calls gp p2 _ (HLC.out.drewN a).P).mono (fun e w' ⟨h1, h2⟩ => ⟨by rw [h1, HQ2.out.st], 0, h2⟩)⟩
            have HVa : Aside0 (∀ a, Calls Tryd.prog 21 #[.pointer (some ⟨gp, 0, none⟩)] (W9.drewN a) fun e w' => e = .returned (.string q2.val) ∧ ∃ m, w' = (W9.drewN a).drewN m) := ⟨fun a => (value_calls gp p2 _ (HLC.out.drewN a).P).mono (fun e w' ⟨h1, h2⟩ => ⟨by rw [h1, HQ2.out.val], 0, h2⟩)⟩
            obtain ⟨h0, h1, h2, h3, h4, h5, h6, h7, h8, h9, h10, h11⟩ := HLC.out.Q.cells
            have hs1 : (q2.st != q2.st) = false := bne_self_eq_false _
            have hv1 : (q2.val.toList != q2.val.toList) = false := bne_self_eq_false _
            clear h0 h1 h2 h3 h4 h5 h6 h7 h8 h9
            go_wp2
            go_quiet (first | (go_at_call 20; with_reducible exact Calls.quiet_of (HSt.out _)) | (go_at_call 21; with_reducible exact Calls.quiet_of (HVa.out _)) | fail)
            clear HSt HVa h10 h11 hs1 hv1
            have HLD := Aside0.mk (HLC.out.drewN nq)
            generalize W9.drewN nq = W10 at HLD ⊢
            go_wp2
            go_roundg (l2.length - i)
            case rel => exact ⟨i + 1, p2, q2, Vq, Vr, by omega, by go_num, by omega, HQ2, HLD⟩
            case measure => omega
          · have hk0 : ((kd : Int) == 0) = false := beq_eq_false_iff_ne.mpr (by omega)
            have hk1 : ((kd : Int) == 1) = false := beq_eq_false_iff_ne.mpr (by omega)
            obtain ⟨p2, q2, rb, hp2, hq2, hr2⟩ := HQ.out.taken' yn
            have HC1 : Aside0 (∀ W, PlIs w W gp b g p q Vn Vp Vc → Calls Tryd.prog 15 #[.pointer (some ⟨gp, 0, none⟩), .int .i64 yn] W fun e w' => e = .returned (.bool rb) ∧ PrIs w' gp p2 ∧ Only W w' (· = gp)) := ⟨fun W h => by have := taken_calls gp p yn W h.P; rw [hp2] at this; exact this⟩
            have HC2 : Aside0 (∀ W, PlIs w W gp b g p2 q Vn Vp Vc → Calls Tryd.prog 16 #[.pointer (some ⟨g, 0, none⟩), .int .i64 yn] W fun e w' => e = .returned (.bool rb) ∧ (∃ Vc', RfIs w' b g q2 Vn Vp Vc') ∧ Only W w' (fun k => k = g ∨ Vc.ownBlock = some k)) := ⟨fun W h => by have := rtaken_calls b g q Vn Vp Vc yn W h.Q HQ.out.short; rw [hq2] at this; exact this⟩
            have HQ2 := Aside0.mk hr2
            clear hr2 hp2 hq2
            have hbb : (rb == rb) = true := by simp
            have HLd := Aside0.mk HLb.out.drew
            have HBd := Aside0.mk (blk_drew HBb.out)
            go_wp2
            refine start_ (n := 10) (S := fun W => W.heap[gd]? = some (.cells #[.int .i64 yk, .int .i64 yn, .int .i64 ya, .int .i64 yb, .int .i64 yc, .int .i64 yd, .string ys, .string yt] 36 (0, 0))) (ds := []) (bz 10 0) (by kernel_rfl) rfl rfl HBd.out (fun hHeld => ?_); refine with_tabW plC.tab19 plC.bits19 (fun HT_ HW_ => ?_)
            generalize W5.drew = W6 at hHeld HLd ⊢
            refine pu_ 0 (some 76) (bz 10 1) HT_.out ?_
            refine pu_ 1 (some 77) (bz 10 3) HT_.out ?_
            refine pu_ 4 (some 80) (bz 10 19) HT_.out ?_
            refine pu_ 5 (some 81) (bz 10 51) HT_.out ?_
            refine take_ (i := 2) (N := (some 78)) (v := ?_) (a' := ?_) (bz 10 55) rfl rfl (take_ofW HT_.out HW_.out (by kernel_rfl)) (fun _ _ _ h => h) (Or.inl ⟨by rfl, ?_⟩) hHeld ?_ ?_
            rotate_left
            · rintro w' s0
              obtain ⟨z0, z1, z2, z3, z4, z5, z6, z7, _, _, _, _, _, _, _, _⟩ := bx8 s0
              go_simp
              with_reducible rfl
            rotate_left
            · simp only [Act.put, sl1, sl2, sl3, i64_w, i32_w]
              rfl
            refine take_ (i := 6) (N := (some 82)) (v := ?_) (a' := ?_) (bz 10 119) rfl rfl (take_ofW HT_.out HW_.out (by kernel_rfl)) (fun _ _ _ h => h) (Or.inl ⟨by rfl, ?_⟩) hHeld ?_ ?_
            rotate_left
            · rintro w' s0
              obtain ⟨z0, z1, z2, z3, z4, z5, z6, z7, _, _, _, _, _, _, _, _⟩ := bx8 s0
              go_simp
              with_reducible rfl
            rotate_left
            · simp only [Act.put, sl1, sl2, sl3, i64_w, i32_w]
              rfl
            refine one_ (i := 3) (N := (some 79)) (bz 10 127) rfl rfl (one_of HT_.out (by kernel_rfl)) (by decide) (fun K hK => ?_)
            refine goes_ Tryd.func15 (by kernel_rfl) rfl #[.pointer (some ⟨gp, 0, none⟩), .int .i64 yn] (by rfl) rfl rfl am ?_
            refine (HC1.out _ HLd.out).mono ?_
            rintro e w1 ⟨rfl, hP, hO⟩
            refine ⟨_, rfl, ?_⟩
            have HL7 := Aside0.mk (HLd.out.stepP hP hO)
            refine hK.out _ _ (HLd.out.boxP hHeld hO (by decide)) (fun hHeld => ?_)
            clear hK K
            refine norm_ (a' := ?_) ?_ ?_
            rotate_left
            · show Act.put _ (some 79) _ = _
              simp only [Act.put, sl1, sl2, sl3, i64_w, i32_w]
              rfl
            refine one_ (i := 7) (N := (some 83)) (bz 10 255) rfl rfl (one_of HT_.out (by kernel_rfl)) (by decide) (fun K hK => ?_)
            refine goes_ Tryd.func16 (by kernel_rfl) rfl #[.pointer (some ⟨g, 0, none⟩), .int .i64 yn] (by rfl) rfl rfl am ?_
            refine (HC2.out _ HL7.out).mono ?_
            rintro e w2 ⟨rfl, ⟨Vp2, hQ⟩, hO2⟩
            refine ⟨_, rfl, ?_⟩
            have HL8 := Aside0.mk (HL7.out.stepQ hQ hO2 HL7.out.geC)
            refine hK.out _ _ (HL7.out.boxVc hHeld hO2 (by decide) (by decide)) (fun hHeld => ?_)
            clear hK K
            refine norm_ (a' := ?_) ?_ ?_
            rotate_left
            · show Act.put _ (some 83) _ = _
              simp only [Act.put, sl1, sl2, sl3, i64_w, i32_w]
              rfl
            refine pu_ 8 (some 84) (bz 10 511) HT_.out ?_
            refine pu_ 9 (some 15) (bz 10 1023) HT_.out ?_
            refine done_ (done_of HT_.out (by kernel_rfl)) ?_
            clear HT_ HW_ z0 z1 z2 z3 z4 z5 z6 z7
            obtain ⟨Vq, Vr, HL9⟩ : ∃ Vq Vr, Aside0 (PlIs w w2 gp b g p2 q2 Vn Vq Vr) := ⟨_, _, HL8⟩
            obtain ⟨ms, hmp, hmq⟩ : ∃ ms, p2.missing = ms ∧ q2.missing = ms := ⟨_, HQ2.out.missing, rfl⟩
            have HMP : Aside0 (∀ W, PrIs W gp p2 → Calls Tryd.prog 18 #[.pointer (some ⟨gp, 0, none⟩)] W fun e w' => (∃ A, e = .returned (.slice A ms.length ms.length) ∧ Kd.C (Kd.int .i64) w' A ms.length ms) ∧ Below W.heap.size W w') := ⟨fun W h => by have := missing_calls gp p2 W h; rw [hmp] at this; exact this⟩
            have HMQ : Aside0 (∀ W, RfIs W b g q2 Vn Vq Vr → Calls Tryd.prog 19 #[.pointer (some ⟨g, 0, none⟩)] W fun e w' => (∃ v, e = .returned v ∧ Kd.R (Kd.int .i64) 3 w' W.heap.size (fun _ => True) v ms) ∧ Below W.heap.size W w') := ⟨fun W h => by have := rmiss_calls b g q2 Vn Vq Vr W h HQ2.out.short; unfold RMissPost at this; rw [hmq] at this; exact this⟩
            clear hmp hmq
            go_wp2_with (go_at_call 18; refine (HMP.out _ HL9.out.P).mono ?_)
            rintro e W7 ⟨⟨A7, rfl, hC7⟩, hb7⟩
            have HLA := Aside0.mk (HL9.out.below hb7)
            have HC7 := Aside0.mk hC7
            clear hC7 hb7
            go_wp2_with (go_at_call 19; refine (HMQ.out _ HLA.out.Q).mono ?_)
            rintro e W8 ⟨⟨v8, rfl, hR8⟩, hb8⟩
            obtain ⟨A8, c8, e8, hc8, hC8⟩ := Kd.R_reads hR8
            subst e8
            have HN8 := Aside0.mk (numbers_calls A7 _ A8 c8 ms W8 (Kd.C_below HC7.out hb8) (Nat.le_refl _) hC8 hc8)
            have HLB := Aside0.mk (HLA.out.below hb8)
            clear hR8 hb8 hc8 hC8 HMP HMQ
            go_wp2_with (go_at_call 17; refine HN8.out.mono ?_)
            rintro e W9 ⟨rfl, m9, rfl⟩
            have HLC := Aside0.mk (HLB.out.drewN m9)
            generalize W8.drewN m9 = W9 at HLC ⊢
            clear HN8 HLB HLA HL9 HC7
            have HSt : Aside0 (∀ a, Calls Tryd.prog 20 #[.pointer (some ⟨gp, 0, none⟩)] (W9.drewN a) fun e w' => e = .returned (.int .i64 q2.st) ∧ ∃ m, w' = (W9.drewN a).drewN m) := ⟨fun a => (state_calls gp p2 _ (HLC.out.drewN a).P).mono (fun e w' ⟨h1, h2⟩ => ⟨by rw [h1, HQ2.out.st], 0, h2⟩)⟩
            have HVa : Aside0 (∀ a, Calls Tryd.prog 21 #[.pointer (some ⟨gp, 0, none⟩)] (W9.drewN a) fun e w' => e = .returned (.string q2.val) ∧ ∃ m, w' = (W9.drewN a).drewN m) := ⟨fun a => (value_calls gp p2 _ (HLC.out.drewN a).P).mono (fun e w' ⟨h1, h2⟩ => ⟨by rw [h1, HQ2.out.val], 0, h2⟩)⟩
            obtain ⟨h0, h1, h2, h3, h4, h5, h6, h7, h8, h9, h10, h11⟩ := HLC.out.Q.cells
            have hs1 : (q2.st != q2.st) = false := bne_self_eq_false _
            have hv1 : (q2.val.toList != q2.val.toList) = false := bne_self_eq_false _
            clear h0 h1 h2 h3 h4 h5 h6 h7 h8 h9
            go_wp2
            go_quiet (first | (go_at_call 20; with_reducible exact Calls.quiet_of (HSt.out _)) | (go_at_call 21; with_reducible exact Calls.quiet_of (HVa.out _)) | fail)
            clear HSt HVa h10 h11 hs1 hv1
            have HLD := Aside0.mk (HLC.out.drewN nq)
            generalize W9.drewN nq = W10 at HLD ⊢
            go_wp2
            go_roundg (l2.length - i)
            case rel => exact ⟨i + 1, p2, q2, Vq, Vr, by omega, by go_num, by omega, HQ2, HLD⟩
            case measure => omega
        · by_cases hl : i < l2.length
          · have hd1 : decide ((i : Int) < (l2.length : Int)) = true := decide_eq_true (by omega)
            have hd2 : decide ((i : Int) < 100) = false := decide_eq_false (by omega)
            go_wp2
            go_ret
            exact ⟨rfl, HL2.out.B⟩
          · have hd1 : decide ((i : Int) < (l2.length : Int)) = false := decide_eq_false (by omega)
            go_wp2
            go_ret
            exact ⟨rfl, HL2.out.B⟩
theorem carillonlaw11_ProposerPlays.calls (a0_0 a0_1 : Int) (A1 : Option Addr) (c1 : Nat) (l1 : List Int) (A2 : Option Addr) (c2 : Nat) (l2 : List S36) (r : Bool) (w : World) (hr1 : Kd.C (Kd.int .i64) w A1 l1.length l1) (hc1 : l1.length ≤ c1) (hr2 : Kd.C k36 w A2 l2.length l2) (hc2 : l2.length ≤ c2) (hr_ : Aside0 (r = true)) (HT_ : TabOk w) (h : carillonlaw11_ProposerPlays.f a0_0 a0_1 l1 l2 = some r) :
    Calls Tryd.prog 3 #[.agg #[.int .i64 a0_0, .int .i64 a0_1], .slice A1 l1.length c1, .slice A2 l2.length c2] w fun e w' => e = .returned (.bool r) ∧ Below w.heap.size w w' := by
  obtain rfl := hr_.out
  unfold carillonlaw11_ProposerPlays.f at h
  split at h
  case isFalse => exact absurd h (by simp)
  rename_i hcond
  rcases new_rel a0_0 a0_1 l1 with he | ⟨p, q, h1, h2, h3, h4⟩
  · exact plays_none a0_0 a0_1 A1 c1 l1 A2 c2 l2 w ⟨hr1⟩ hc1 ⟨hr2⟩ hc2 ⟨HT_⟩ hcond.1 ⟨hcond.2⟩ ⟨he⟩
  · exact plays_some a0_0 a0_1 A1 c1 l1 A2 c2 l2 w ⟨hr1⟩ hc1 ⟨hr2⟩ hc2 ⟨HT_⟩ hcond.1 ⟨hcond.2⟩ p q ⟨h1, h2⟩ ⟨h3⟩ h4

end Go.Proofs.YtnmcknfkmelnbaaDoor.P
