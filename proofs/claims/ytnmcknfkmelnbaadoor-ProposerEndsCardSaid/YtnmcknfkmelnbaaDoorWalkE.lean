import Derived.Test.YtnmcknfkmelnbaaDoorWalkD
import Derived.Outline
import Derived.Laws.BitsAllLaws
import Derived.WalkSpells
import Derived.StillTailTactics
namespace Go.Proofs.YtnmcknfkmelnbaaDoor.P
open Go.RowKit Go.Proofs.YtnmcknfkmelnbaaDoorW.PrintWords Go.Proofs.YtnmcknfkmelnbaaDoorW.PrintLast Go.Proofs.YtnmcknfkmelnbaaDoorW.PrintMore
attribute [local go_sem] max2_int min2_int max_two min_two max_three min_three max_four min_four
set_option linter.unusedVariables false
set_option linter.unusedSimpArgs false
/-- What New makes, by its place. -/
def NewPost (w : World) (q : Option PrS) (e : Ending) (w' : World) : Prop :=
  Below w.heap.size w w' ∧ match q with
    | none => e = .returned (.tuple #[.pointer none, .int .i64 1])
    | some p => ∃ g, w.heap.size ≤ g ∧ e = .returned (.tuple #[.pointer (some ⟨g, 0, none⟩), .int .i64 0]) ∧ PrIs w' g p
theorem newPost_none {w : World} {q : Option PrS} {w' : World} (h : q = none) (hb : Below w.heap.size w w') : NewPost w q (.returned (.tuple #[.pointer none, .int .i64 1])) w' := by
  subst h
  exact ⟨hb, rfl⟩
theorem newPost_some {w : World} {q : Option PrS} {w' : World} {p : PrS} {g : Nat} (h : q = some p) (hb : Below w.heap.size w w') (hg : w.heap.size ≤ g) (hp : PrIs w' g p) : NewPost w q (.returned (.tuple #[.pointer (some ⟨g, 0, none⟩), .int .i64 0])) w' := by
  subst h
  exact ⟨hb, g, hg, rfl, hp⟩
def prNew (r n : Int) (bs : List Bool) : PrS := ⟨r, n, bs, noneB, noneB, AcS.zero, 0, ⟨#[]⟩⟩
def newEnd (r n : Int) (l : List Int) : Option (List Bool) → Option PrS
  | none => none
  | some b => if l = [] ∨ ¬ RightP r n then none else some (prNew r n b)
theorem newP_end (r n : Int) (l : List Int) : newP r n l = newEnd r n l (addN l noneB) := by
  unfold newP newEnd prNew
  cases addN l noneB <;> rfl
theorem drop_rd (l : List Int) (k : Nat) (h : k < l.length) : l.drop k = rd l (k : Int) :: l.drop (k + 1) := by
  rw [List.drop_eq_getElem_cons h]
  simp [rd, List.getD_eq_getElem?_getD, List.getElem?_eq_getElem h]
set_option maxHeartbeats 4000000 in
set_option maxRecDepth 100000 in
theorem new_calls (r n : Int) (A : Option Addr) (c : Nat) (l : List Int) (w : World) (hr : Kd.C (Kd.int .i64) w A l.length l) (hc : l.length ≤ c) :
    Calls Tryd.prog 8 #[.agg #[.int .i64 r, .int .i64 n], .slice A l.length c] w (NewPost w (newP r n l)) := by
  rw [newP_end]
  have HR := Aside0.mk hr
  have hm := hr.2.1
  clear hr hc
  have HB0 : Below w.heap.size w (w.alloc (.cells #[.int .i64 r, .int .i64 n] 23)) := below_alloc (Below.refl _ _) _
  have HB1 : Below w.heap.size w ((w.alloc (.cells #[.int .i64 r, .int .i64 n] 23)).alloc (.cells (prCells (prNew r n noneB)).toArray 68)) := below_alloc HB0 _
  have HX : ((w.alloc (.cells #[.int .i64 r, .int .i64 n] 23)).alloc (.cells (prCells (prNew r n noneB)).toArray 68)).heap[w.heap.size]? = some (.cells #[.int .i64 r, .int .i64 n] 23 (0, 0)) := blk_alloc (heap_alloc_new w _) _
  have HP : PrIs ((w.alloc (.cells #[.int .i64 r, .int .i64 n] 23)).alloc (.cells (prCells (prNew r n noneB)).toArray 68)) (w.heap.size + 1) (prNew r n noneB) := ⟨by
    have := heap_alloc_new (w.alloc (.cells #[.int .i64 r, .int .i64 n] 23)) (.cells (prCells (prNew r n noneB)).toArray 68)
    rwa [World.size_alloc] at this, rfl, rfl, rfl⟩
  go_enter Tryd.func8, Tryd.ntmps8
  go_wp2
  go_loopg [14] (l.length + 1) (fun kq v14 W => ∃ (k : Nat) (bs : List Bool), k ≤ l.length ∧ v14 = .int .i64 (k : Int) ∧ l.length - k < kq ∧ Aside0 (PrIs W (w.heap.size + 1) (prNew r n bs)) ∧ Aside0 (W.heap[w.heap.size]? = some (.cells #[.int .i64 r, .int .i64 n] 23 (0, 0))) ∧ Aside0 (addN (l.drop k) bs = addN l noneB) ∧ Aside0 (Below w.heap.size w W))
  case atStart => exact ⟨0, noneB, Nat.zero_le _, rfl, by omega, ⟨HP⟩, ⟨HX⟩, ⟨rfl⟩, ⟨HB1⟩⟩
  case round =>
    obtain ⟨k, bs, hk, rfl, hq, HPk, HXk, HA, HB⟩ := hrel
    clear HB0 HB1 HX HP
    by_cases hlt : k < l.length
    · have HAN := Aside0.mk HA.out
      rw [drop_rd l k hlt] at HAN
      have HRk := Kd.C_below HR.out HB.out
      obtain ⟨ad, e0, hx⟩ := Kd.at_int HRk (k : Int) (by omega) (by omega)
      cases e0
      rw [show ((k : Int)).toNat = k from rfl] at hx
      generalize rd l (k : Int) = x at hx HAN
      have hlt2 : decide ((k : Int) < (l.length : Int)) = true := decide_eq_true (by omega)
      clear HRk HA
      by_cases h0 : x < 0
      · have h0b : decide (x < 0) = true := decide_eq_true h0
        have HN : newEnd r n l (addN l noneB) = none := by rw [← HAN.out]; simp only [addN]; rw [if_neg (by omega)]; rfl
        clear h0 hq
        go_wp2
        go_ret2
        exact newPost_none HN HB.out
      · have h0b : decide (x < 0) = false := decide_eq_false h0
        by_cases h7 : x < 7
        · have h7b : decide (x ≥ 7) = false := decide_eq_false (by omega)
          have hn := HPk.out.nodes x.toNat (by omega)
          have hx0 : 0 ≤ x := by omega
          by_cases hb : bs.getD x.toNat false = true
          · have HN : newEnd r n l (addN l noneB) = none := by rw [← HAN.out]; simp only [addN]; rw [if_neg (by rw [hb]; simp)]; rfl
            rw [show (prNew r n bs).nodes.getD x.toNat false = true from hb] at hn
            clear h0 hq
            go_wp2
            go_ret2
            exact newPost_none HN HB.out
          · have hb' : bs.getD x.toNat false = false := by simpa using hb
            have HA2 : Aside0 (addN (l.drop (k + 1)) (bs.set x.toNat true) = addN l noneB) := ⟨by rw [← HAN.out]; simp only [addN]; rw [if_pos ⟨hx0, h7, hb'⟩]⟩
            rw [show (prNew r n bs).nodes.getD x.toNat false = false from hb'] at hn
            have hf := HPk.out.frozen (2 + x.toNat)
            have HP2 := Aside0.mk (HPk.out.set_nodes x.toNat (by omega) true)
            have HB2 := Aside0.mk (below_set HB.out (j := 2 + x.toNat) (v := .bool true) (show w.heap.size ≤ w.heap.size + 1 by omega))
            have HX2 := Aside0.mk (blk_far (p := ⟨w.heap.size + 1, 2 + x.toNat, none⟩) HXk.out (by simp) (.bool true))
            clear h0 hb
            go_wp2
            go_roundg (l.length - k)
            case rel => exact ⟨k + 1, bs.set x.toNat true, by omega, by go_num, by omega, HP2, HX2, HA2, HB2⟩
            case measure => omega
        · have h7b : decide (x ≥ 7) = true := decide_eq_true (by omega)
          have HN : newEnd r n l (addN l noneB) = none := by rw [← HAN.out]; simp only [addN]; rw [if_neg (by omega)]; rfl
          clear h0 h7 hq
          go_wp2
          go_ret2
          exact newPost_none HN HB.out
    · obtain rfl : k = l.length := by omega
      have HNN : addN l noneB = some bs := by rw [← HA.out, List.drop_length]; rfl
      have hlt2 : decide ((l.length : Int) < (l.length : Int)) = false := decide_eq_false (by omega)
      obtain ⟨hx0, hx1, _, _⟩ := bx2 HXk.out
      clear hlt hq HA HR
      by_cases hz : l = []
      · have hzb : ((l.length : Int) == 0) = true := by rw [hz]; rfl
        have HN : newEnd r n l (addN l noneB) = none := by rw [HNN]; show (if l = [] ∨ ¬ RightP r n then (none : Option PrS) else some (prNew r n bs)) = _; rw [if_pos (.inl hz)]
        clear hz HNN
        go_wp2
        go_ret2
        exact newPost_none HN HB.out
      · have hzb : ((l.length : Int) == 0) = false := beq_eq_false_iff_ne.mpr (fun e => hz (List.length_eq_zero_iff.mp (by omega)))
        have HRT := Aside0.mk (aright_is r n)
        by_cases hr : RightP r n
        · have HN : newEnd r n l (addN l noneB) = some (prNew r n bs) := by rw [HNN]; show (if l = [] ∨ ¬ RightP r n then (none : Option PrS) else some (prNew r n bs)) = _; rw [if_neg (fun h => h.elim hz (fun h => h hr))]
          rw [decide_eq_true hr] at HRT
          clear hz hr HNN
          go_wp2_with (go_at_call 24; refine (acceptor_Right.calls r n _ _ HRT.out).mono ?_; rintro e W2 ⟨rfl, hb2⟩)
          go_ret2
          exact newPost_some HN (HB.out.trans (hb2.mono HB.out.size)) (by omega) (HPk.out.below hb2)
        · have HN : newEnd r n l (addN l noneB) = none := by rw [HNN]; show (if l = [] ∨ ¬ RightP r n then (none : Option PrS) else some (prNew r n bs)) = _; rw [if_pos (.inr hr)]
          rw [decide_eq_false hr] at HRT
          clear hz hr HNN
          go_wp2_with (go_at_call 24; refine (acceptor_Right.calls r n _ _ HRT.out).mono ?_; rintro e W2 ⟨rfl, hb2⟩)
          go_ret2
          exact newPost_none HN (HB.out.trans (hb2.mono HB.out.size))

end Go.Proofs.YtnmcknfkmelnbaaDoor.P
