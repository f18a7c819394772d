import Derived.Test.YtnmcknfkmelnbaaDoorWalkD
import Derived.Outline
import Derived.Laws.BitsAllLaws
import Derived.WalkSpells
import Derived.StillTailTactics
namespace Go.Proofs.YtnmcknfkmelnbaaDoor.P
open Go.RowKit Go.Proofs.YtnmcknfkmelnbaaDoorW.PrintWords Go.Proofs.YtnmcknfkmelnbaaDoorW.PrintLast Go.Proofs.YtnmcknfkmelnbaaDoorW.PrintMore
attribute [local go_sem] max2_int min2_int max_two min_two max_three min_three max_four min_four
set_option linter.unusedVariables false
set_option linter.unusedSimpArgs false
/-- What New makes, by its place. -/
def NewPost (w : World) (q : Option PrS) (e : Ending) (w' : World) : Prop :=
  Below w.heap.size w w' ∧ match q with
    | none => e = .returned (.tuple #[.pointer none, .int .i64 1])
    | some p => ∃ g, w.heap.size ≤ g ∧ e = .returned (.tuple #[.pointer (some ⟨g, 0, none⟩), .int .i64 0]) ∧ PrIs w' g p
theorem newPost_none {w : World} {q : Option PrS} {w' : World} (h : q = none) (hb : Below w.heap.size w w') : NewPost w q (.returned (.tuple #[.pointer none, .int .i64 1])) w' := by
  subst h
  exact ⟨hb, rfl⟩
theorem newPost_some {w : World} {q : Option PrS} {w' : World} {p : PrS} {g : Nat} (h : q = some p) (hb : Below w.heap.size w w') (hg : w.heap.size ≤ g) (hp : PrIs w' g p) : NewPost w q (.returned (.tuple #[.pointer (some ⟨g, 0, none⟩), .int .i64 0])) w' := by
  subst h
  exact ⟨hb, g, hg, rfl, hp⟩
def prNew (r n : Int) (bs : List Bool) : PrS := ⟨r, n, bs, noneB, noneB, AcS.zero, 0, ⟨#[]⟩⟩
def newEnd (r n : Int) (l : List Int) : Option (List Bool) → Option PrS
  | none => none
  | some b => if l = [] ∨ ¬ RightP r n then none else some (prNew r n b)
theorem newP_end (r n : Int) (l : List Int) : newP r n l = newEnd r n l (addN l noneB) := by
  unfold newP newEnd prNew
  cases addN l noneB <;> rfl
theorem drop_rd (l : List Int) (k : Nat) (h : k < l.length) : l.drop k = rd l (k : Int) :: l.drop (k + 1) := by
  rw [List.drop_eq_getElem_cons h]
  simp [rd, List.getD_eq_getElem?_getD, List.getElem?_eq_getElem h]
set_option maxHeartbeats 4000000 in
set_option maxRecDepth 100000 in
theorem new_calls (r n : Int) (A : Option Addr) (c : Nat) (l : List Int) (w : World) (hr : Kd.C (Kd.int .i64) w A l.length l) (hc : l.length ≤ c) :
    Calls Tryd.prog 8 #[.agg #[.int .i64 r, .int .i64 n], .slice A l.length c] w (NewPost w (newP r n l)) := by
  rw [newP_end]
  have HR := Aside0.mk hr
  have hm := hr.2.1
  clear hr hc
  have HB0 : Below w.heap.size w (w.alloc (.cells #[.int .i64 r, .int .i64 n] 23)) := below_alloc (Below.refl _ _) _
  have HB1 : Below w.heap.size w ((w.alloc (.cells #[.int .i64 r, .int .i64 n] 23)).alloc (.cells (prCells (prNew r n noneB)).toArray 68)) := below_alloc HB0 _
  have HX : ((w.alloc (.cells #[.int .i64 r, .int .i64 n] 23)).alloc (.cells (prCells (prNew r n noneB)).toArray 68)).heap[w.heap.size]? = some (.cells #[.int .i64 r, .int .i64 n] 23 (0, 0)) := blk_alloc (heap_alloc_new w _) _
  have HP : PrIs ((w.alloc (.cells #[.int .i64 r, .int .i64 n] 23)).alloc (.cells (prCells (prNew r n noneB)).toArray 68)) (w.heap.size + 1) (prNew r n noneB) := ⟨by
    have := heap_alloc_new (w.alloc (.cells #[.int .i64 r, .int .i64 n] 23)) (.cells (prCells (prNew r n noneB)).toArray 68)
    rwa [World.size_alloc] at this, rfl, rfl, rfl⟩
  go_enter Tryd.func8, Tryd.ntmps8
  go_wp2
  go_loopg [14] (l.length + 1) (fun kq v14 W => ∃ (k : Nat) (bs : List Bool), k ≤ l.length ∧ v14 = .int .i64 (k : Int) ∧ l.length - k < kq ∧ Aside0 (PrIs W (w.heap.size + 1) (prNew r n bs)) ∧ Aside0 (W.heap[w.heap.size]? = some (.cells #[.int .i64 r, .int .i64 n] 23 (0, 0))) ∧ Aside0 (addN (l.drop k) bs = addN l noneB) ∧ Aside0 (Below w.heap.size w W))
  case atStart => exact ⟨0, noneB, Nat.zero_le _, rfl, by omega, ⟨HP⟩, ⟨HX⟩, ⟨rfl⟩, ⟨HB1⟩⟩
  case round =>
    obtain ⟨k, bs, hk, rfl, hq, HPk, HXk, HA, HB⟩ := hrel
    clear HB0 HB1 HX HP
    by_cases hlt : k < l.length
    · have HAN := Aside0.mk HA.out
      rw [drop_rd l k hlt] at HAN
      have HRk := Kd.C_below HR.out HB.out
      obtain ⟨ad, e0, hx⟩ := Kd.at_int HRk (k : Int) (by omega) (by omega)
      cases e0
      rw [show ((k : Int)).toNat = k from rfl] at hx
      generalize rd l (k : Int) = x at hx HAN
      have hlt2 : decide ((k : Int) < (l.length : Int)) = true := decide_eq_true (by omega)
      clear HRk HA
      by_cases h0 : x < 0
      · have h0b : decide (x < 0) = true := decide_eq_true h0
        have HN : newEnd r n l (addN l noneB) = none := by rw [← HAN.out]; simp only [addN]; rw [if_neg (by omega)]; rfl
        clear h0 hq
        go_wp2
        go_ret2
        exact newPost_none HN HB.out
      · have h0b : decide (x < 0) = false := decide_eq_false h0
        by_cases h7 : x < 7
        · have h7b : decide (x ≥ 7) = false := decide_eq_false (by omega)
          have hn := HPk.out.nodes x.toNat (by omega)
          have hx0 : 0 ≤ x := by omega
          by_cases hb : bs.getD x.toNat false = true
          · have HN : newEnd r n l (addN l noneB) = none := by rw [← HAN.out]; simp only [addN]; rw [if_neg (by rw [hb]; simp)]; rfl
            rw [show (prNew r n bs).nodes.getD x.toNat false = true from hb] at hn
            clear h0 hq
            go_wp2
            go_ret2
            exact newPost_none HN HB.out
          · have hb' : bs.getD x.toNat false = false := by simpa using hb
            have HA2 : Aside0 (addN (l.drop (k + 1)) (bs.set x.toNat true) = addN l noneB) := ⟨by rw [← HAN.out]; simp only [addN]; rw [if_pos ⟨hx0, h7, hb'⟩]⟩
            rw [show (prNew r n bs).nodes.getD x.toNat false = false from hb'] at hn
            have hf := HPk.out.frozen (2 + x.toNat)
            have HP2 := Aside0.mk (HPk.out.set_nodes x.toNat (by omega) true)
            have HB2 := Aside0.mk (below_set HB.out (j := 2 + x.toNat) (v := .bool true) (show w.heap.size ≤ w.heap.size + 1 by omega))
            have HX2 := Aside0.mk (blk_far (p := ⟨w.heap.size + 1, 2 + x.toNat, none⟩) HXk.out (by simp) (.bool true))
            clear h0 hb
            go_wp2
            go_roundg (l.length - k)
            case rel => exact ⟨k + 1, bs.set x.toNat true, by omega, by go_num, by omega, HP2, HX2, HA2, HB2⟩
            case measure => omega
        · have h7b : decide (x ≥ 7) = true := decide_eq_true (by omega)
          have HN : newEnd r n l (addN l noneB) = none := by rw [← HAN.out]; simp only [addN]; rw [if_neg (by omega)]; rfl
          clear h0 h7 hq
          go_wp2
          go_ret2
          exact newPost_none HN HB.out
    · obtain rfl : k = l.length := by omega
      have HNN : addN l noneB = some bs := by rw [← HA.out, List.drop_length]; rfl
      have hlt2 : decide ((l.length : Int) < (l.length : Int)) = false := decide_eq_false (by omega)
      obtain ⟨hx0, hx1, _, _⟩ := bx2 HXk.out
      clear hlt hq HA HR
      by_cases hz : l = []
      · have hzb : ((l.length : Int) == 0) = true := by rw [hz]; rfl
        have HN : newEnd r n l (addN l noneB) = none := by rw [HNN]; show (if l = [] ∨ ¬ RightP r n then (none : Option PrS) else some (prNew r n bs)) = _; rw [if_pos (.inl hz)]
        clear hz HNN
        go_wp2
        go_ret2
        exact newPost_none HN HB.out
      · have hzb : ((l.length : Int) == 0) = false := beq_eq_false_iff_ne.mpr (fun e => hz (List.length_eq_zero_iff.mp (by omega)))
        have HRT := Aside0.mk (aright_is r n)
        by_cases hr : RightP r n
        · have HN : newEnd r n l (addN l noneB) = some (prNew r n bs) := by rw [HNN]; show (if l = [] ∨ ¬ RightP r n then (none : Option PrS) else some (prNew r n bs)) = _; rw [if_neg (fun h => h.elim hz (fun h => h hr))]
          rw [decide_eq_true hr] at HRT
          clear hz hr HNN
          go_wp2_with (go_at_call 24; refine (acceptor_Right.calls r n _ _ HRT.out).mono ?_; rintro e W2 ⟨rfl, hb2⟩)
          go_ret2
          exact newPost_some HN (HB.out.trans (hb2.mono HB.out.size)) (by omega) (HPk.out.below hb2)
        · have HN : newEnd r n l (addN l noneB) = none := by rw [HNN]; show (if l = [] ∨ ¬ RightP r n then (none : Option PrS) else some (prNew r n bs)) = _; rw [if_pos (.inr hr)]
          rw [decide_eq_false hr] at HRT
          clear hz hr HNN
          go_wp2_with (go_at_call 24; refine (acceptor_Right.calls r n _ _ HRT.out).mono ?_; rintro e W2 ⟨rfl, hb2⟩)
          go_ret2
          exact newPost_none HN (HB.out.trans (hb2.mono HB.out.size))

theorem clip_calls (A : Option Addr) (n c : Nat) (w : World) (hc : n ≤ c) (hm : n ≤ 9223372036854775807) :
    Calls Tryd.prog 34 #[.slice A n c] w fun e w' => e = .returned (.slice A n n) ∧ w' = w := by
  go_enter Tryd.func34, Tryd.ntmps34
  go_wp2
  go_ret
  exact ⟨rfl, rfl⟩
theorem PrIs.grown {w w1 : World} {g : Nat} {p : PrS} {row : Option Nat} (h : PrIs w g p) (hg : w.grownBy w1 row) (hne : some g ≠ row) : PrIs w1 g p := ⟨blk_grown h.blk hg hne, h.l1, h.l2, h.l3⟩
/-- Which of the nodes are missing. -/
def PrS.misses (p : PrS) (i : Nat) : Bool := p.nodes.getD i false && !((if p.st = 0 then p.prom else p.cntd).getD i false)
def PrS.missK (p : PrS) (k : Nat) : List Int := ((List.range k).filter p.misses).map Int.ofNat
theorem PrS.missK_succ (p : PrS) (k : Nat) : p.missK (k + 1) = if p.misses k = true then p.missK k ++ [(k : Int)] else p.missK k := by
  unfold PrS.missK
  rw [List.range_succ, List.filter_append, List.map_append]
  by_cases h : p.misses k = true
  · rw [if_pos h]; simp [h]
  · rw [if_neg h]; simp [h]
theorem PrS.missK_le (p : PrS) (k : Nat) : (p.missK k).length ≤ k := by
  unfold PrS.missK
  rw [List.length_map]
  exact Nat.le_trans (List.length_filter_le _ _) (by rw [List.length_range]; exact Nat.le_refl _)
set_option maxHeartbeats 4000000 in
set_option maxRecDepth 100000 in
theorem missing_gen (g : Nat) (p : PrS) (w : World) (HP : Aside0 (PrIs w g p)) (base : Nat) (s0 : Bool) (hs : (p.st == 0) = s0) (hbase : base = if s0 = true then 9 else 16)
    (HT : Aside0 (∀ W, PrIs W g p → ∀ k, k < 7 → W.cell? ⟨g, base + k, none⟩ = some (.bool ((if p.st = 0 then p.prom else p.cntd).getD k false)))) :
    Calls Tryd.prog 18 #[.pointer (some ⟨g, 0, none⟩)] w fun e w' => (∃ A, e = .returned (.slice A p.missing.length p.missing.length) ∧ Kd.C (Kd.int .i64) w' A p.missing.length p.missing) ∧ Below w.heap.size w w' := by
  have hpm : p.missing = p.missK 7 := rfl
  rw [hpm]
  clear hpm
  have hc28 := HP.out.high.2.2.2.2.2.1
  obtain ⟨b0, b1, b2, b3, b4, b5, b6, hN⟩ := list7 HP.out.l1
  have z0 : w.cell? ⟨g, 2, none⟩ = some (.bool b0) := by have := HP.out.nodes 0 (by decide); rw [hN] at this; exact this
  have z1 : w.cell? ⟨g, 3, none⟩ = some (.bool b1) := by have := HP.out.nodes 1 (by decide); rw [hN] at this; exact this
  have z2 : w.cell? ⟨g, 4, none⟩ = some (.bool b2) := by have := HP.out.nodes 2 (by decide); rw [hN] at this; exact this
  have z3 : w.cell? ⟨g, 5, none⟩ = some (.bool b3) := by have := HP.out.nodes 3 (by decide); rw [hN] at this; exact this
  have z4 : w.cell? ⟨g, 6, none⟩ = some (.bool b4) := by have := HP.out.nodes 4 (by decide); rw [hN] at this; exact this
  have z5 : w.cell? ⟨g, 7, none⟩ = some (.bool b5) := by have := HP.out.nodes 5 (by decide); rw [hN] at this; exact this
  have z6 : w.cell? ⟨g, 8, none⟩ = some (.bool b6) := by have := HP.out.nodes 6 (by decide); rw [hN] at this; exact this
  have HX := Aside0.mk (fun i h0 h7 w_ => ixB b0 b1 b2 b3 b4 b5 b6 i h0 h7 w_)
  rw [← hN] at HX
  clear hN
  cases s0 <;> (simp only [if_true, if_false, Bool.false_eq_true] at hbase; subst hbase)
  all_goals
    go_enter Tryd.func18, Tryd.ntmps18
    go_wp2
    clear z0 z1 z2 z3 z4 z5 z6 hc28
    go_loopg [4, 22] 8 (fun kq v4 v22 W => ∃ (k : Nat), k ≤ 7 ∧ v22 = .int .i64 (k : Int) ∧ 7 - k < kq ∧ Aside0 (PrIs W g p) ∧ Aside0 (Kd.R (Kd.int .i64) 3 W w.heap.size (fun _ => True) v4 (p.missK k)) ∧ Aside0 (Below w.heap.size w W))
    case atStart => exact ⟨0, by omega, rfl, by omega, HP, ⟨Kd.R_nil _ _ _ _ _⟩, ⟨Below.refl _ _⟩⟩
    case round =>
      obtain ⟨k, hk, rfl, hq, HPk, aa, HB⟩ := hrel
      by_cases hlt : k < 7
      · have hix := fun w_ => HX.out (k : Int) (by omega) (by omega) w_
        rw [show ((k : Int)).toNat = k from rfl] at hix
        have hct := HT.out _ HPk.out k hlt
        have HS := Aside0.mk (p.missK_succ k)
        have HL := Aside0.mk (p.missK_le k)
        unfold PrS.misses at HS
        generalize p.nodes.getD k false = x at hix HS
        generalize (if p.st = 0 then p.prom else p.cntd).getD k false = y at hct HS
        have hadd : (9 + (k : Int).toNat : Nat) = 9 + k := rfl
        cases x
        · simp only [Bool.false_and, Bool.false_eq_true, if_false] at HS
          go_wp2
          go_roundg (7 - k)
          case rel => exact ⟨k + 1, by omega, by go_num, by omega, HPk, ⟨by rw [HS.out]; exact aa.out⟩, HB⟩
          case measure => omega
        · cases y
          · simp only [Bool.true_and, Bool.not_false, if_true] at HS
            go_wp2_with ((with_reducible refine gate_builtin (b := .append) (xs := #[.tmp 35, .tmp 37]) rfl ?_); at_builtin; refine Kd.R_append (Kd.int .i64) (w0 := w) w.heap.size rfl (.tmp 35) (.tmp 37) 24 3 (.int .i64 0) 8 rfl Tryd.underlying24 info3 rfl (by decide) (by omega) u4 (p.missK k) (k : Int) [.int .i64 (k : Int)] (fun _ => True) (fun _ => False) rfl rfl ?aP (fun _ hk => hk.elim) ?aF ?aO ?aB ?aS ?aL ?_; (case aP => exact rfl); (case aB => exact bw); (case aF => exact (fun _ _ => trivial)); (case aO => exact (by (with_reducible repeat (first | apply Kd.R_alloc | apply Kd.R_drewN | apply Kd.R_drew)); exact aa.out)); (case aS => exact (below_size bw)); (case aL => have := HL.out; omega); intro v176 w6 ho hb hg hat; have HP6 := Aside0.mk (PrIs.grown HPk.out hg (Kd.R_ne aa.out HPk.out.blk (by decide))); have n0_ := Aside0.mk hb; have n1_ := Aside0.mk ho; clear ho hb hg hat)
            go_roundg (7 - k)
            case rel => exact ⟨k + 1, by omega, by go_num, by omega, HP6, ⟨by rw [HS.out]; exact n1_.out⟩, n0_⟩
            case measure => omega
          · simp only [Bool.true_and, Bool.not_true, Bool.false_eq_true, if_false] at HS
            go_wp2
            go_roundg (7 - k)
            case rel => exact ⟨k + 1, by omega, by go_num, by omega, HPk, ⟨by rw [HS.out]; exact aa.out⟩, HB⟩
            case measure => omega
      · obtain rfl : k = 7 := by omega
        obtain ⟨A9, c9, e9, hc9, hC9⟩ := Kd.R_reads aa.out
        subst e9
        have HCL := Aside0.mk (fun W => clip_calls A9 (p.missK 7).length c9 W hc9 hC9.2.1)
        have HC9 := Aside0.mk hC9
        clear hc9 hC9
        go_wp2_with (go_at_call 34; refine (HCL.out _).mono ?_; rintro e w' ⟨rfl, rfl⟩)
        go_ret
        exact ⟨⟨A9, rfl, HC9.out⟩, HB.out⟩
/-- What Missing answers. -/
theorem missing_calls (g : Nat) (p : PrS) (w : World) (h : PrIs w g p) :
    Calls Tryd.prog 18 #[.pointer (some ⟨g, 0, none⟩)] w fun e w' => (∃ A, e = .returned (.slice A p.missing.length p.missing.length) ∧ Kd.C (Kd.int .i64) w' A p.missing.length p.missing) ∧ Below w.heap.size w w' := by
  by_cases c : p.st = 0
  · exact missing_gen g p w ⟨h⟩ 9 true (beq_iff_eq.mpr c) rfl ⟨fun W hW k hk => by rw [if_pos c]; exact hW.prom k hk⟩
  · exact missing_gen g p w ⟨h⟩ 16 false (beq_eq_false_iff_ne.mpr c) rfl ⟨fun W hW k hk => by rw [if_neg c]; exact hW.cntd k hk⟩

end Go.Proofs.YtnmcknfkmelnbaaDoor.P
