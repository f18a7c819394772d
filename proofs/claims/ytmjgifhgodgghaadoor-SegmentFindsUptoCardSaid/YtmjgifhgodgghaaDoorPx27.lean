-- Printed by this session's program wip/xp.py (a turned copy of the kit's printer): functions, their contracts.
import Derived.Test.YtmjgifhgodgghaaDoorPx0
import Derived.Test.YtmjgifhgodgghaaDoorPx2
namespace Go.Proofs.YtmjgifhgodgghaaDoor.P
open Go.RowKit Go.Proofs.YtmjgifhgodgghaaDoorW.PrintWords Go.Proofs.YtmjgifhgodgghaaDoorW.PrintLast Go.Proofs.YtmjgifhgodgghaaDoorW.PrintMore
attribute [local go_sem] max2_int min2_int max_two min_two max_three min_three max_four min_four   -- for this text's walks alone
set_option linter.unusedVariables false
set_option linter.unusedSimpArgs false

attribute [local go_sem high] eqA44
/-! ### segment_Find: function 19 -/
/-- A search between two bounds: the least place from which on a test holds, of a test that goes on holding. -/
def srchS (p : Nat → Bool) : Nat → Nat → Nat → Nat
 | 0, i, _ => i
 | n + 1, i, j => if i < j then (if p ((i + j) / 2) = true then srchS p n i ((i + j) / 2) else srchS p n ((i + j) / 2 + 1) j) else i
theorem srchS_le (p : Nat → Bool) : ∀ (n i j : Nat), i ≤ j → i ≤ srchS p n i j ∧ srchS p n i j ≤ j
 | 0, i, j => fun h => ⟨Nat.le_refl _, h⟩
 | n + 1, i, j => by
  intro h
  simp only [srchS]
  by_cases c : i < j
  ·rw [if_pos c]
   by_cases d : p ((i + j) / 2) = true
   ·rw [if_pos d]
    have := srchS_le p n i ((i + j) / 2) (by omega)
    omega
   ·rw [if_neg d]
    have := srchS_le p n ((i + j) / 2 + 1) j (by omega)
    omega
  ·rw [if_neg c]
   omega
theorem srch_arith (i j s m : Nat) (hs : i + j = s) (hm : (i + j) / 2 = m) (hj : j ≤ 1000000000000000) (hij : i < j) : (i ≤ m ∧ m < j) ∧ wrap64 ((i : Int) + (j : Int)) = (s : Int) ∧ IntKind.u64.wrap (s : Int) = (s : Int) ∧ (s : Int) / 2 = (m : Int) ∧ IntKind.i64.wrap (m : Int) = (m : Int) ∧ wrap64 (m : Int) = (m : Int) ∧ wrap64 ((m : Int) + 1) = ((m + 1 : Nat) : Int) := by
 refine ⟨by omega, by unfold wrap64; omega, by show (s : Int) % 18446744073709551616 = s; omega, by omega, by rw [IntKind.wrap_i64]; omega, by unfold wrap64; omega, by unfold wrap64; omega⟩
theorem srch_m1 {i j m n k : Nat} (h : i ≤ m ∧ m < j) (g : i ≤ j ∧ j ≤ n ∧ j - i < k + 1) : m - i < k := by omega
theorem srch_m2 {i j m n k : Nat} (h : i ≤ m ∧ m < j) (g : i ≤ j ∧ j ≤ n ∧ j - i < k + 1) : j - (m + 1) < k := by omega
abbrev gtE (l0 : List S44) (a1 : Int) (i : Nat) : Bool := decide (a1 < (rd_T44 l0 (i : Int)).f0)
def segment_Find.f (l0 : List S44) (a1 : Int) : Option Int :=
 if l0.length ≤ 1000000000000000 then (if srchS (gtE l0 a1) (l0.length + 1) 0 l0.length = 0 then some 0 else some (rd_T44 l0 ((srchS (gtE l0 a1) (l0.length + 1) 0 l0.length - 1 : Nat) : Int)).f1) else none
set_option maxRecDepth 100000 in
set_option maxHeartbeats 4000000 in
theorem find1_calls (A0 : Option Addr) (c0 : Nat) (l0 : List S44) (a1 : Int) (Bi Bo : Nat) (i : Nat) (hi : i < l0.length) (w : World) (hr : Kd.C k44 w A0 l0.length l0) (h1 : w.heap[Bi]? = some (.cells #[.slice A0 l0.length c0] 38 (0, 0))) (h2 : w.heap[Bo]? = some (.cells #[.int .i64 a1] 3 (0, 0))) :
  Calls Tryd.prog 32 #[.int .i64 (i : Int), .pointer (some ⟨Bi, 0, none⟩), .pointer (some ⟨Bo, 0, none⟩)] w fun e w' => e = .returned (.bool (gtE l0 a1 i)) ∧ Below w.heap.size w w' := by
 have HB := Aside0.mk (Below.refl w.heap.size w)
 obtain ⟨ad, e0, hx0, hx1⟩ := at_T44 hr (i : Int) (by omega) (by omega)
 cases e0
 rw [show ((i : Int)).toNat = i from rfl] at hx0 hx1
 have hb0 := bc1_0 h1
 have hb1 := bc1_0 h2
 have p127 := eq_true (show (0 : Int) ≤ (i : Int) by omega)
 have q127 := eq_true (show (i : Int) < (l0.length : Int) by omega)
 unfold gtE
 generalize rd_T44 l0 (i : Int) = x at hx0 hx1
 go_enter Tryd.func32, Tryd.ntmps32
 go_wp2
 repeat (go_quiet (fail); go_wp2)
 go_ret
 exact ⟨rfl, bw⟩
set_option maxRecDepth 100000 in
set_option maxHeartbeats 4000000 in
theorem search_calls (A0 : Option Addr) (c0 : Nat) (l0 : List S44) (a1 : Int) (Bi Bo : Nat) (hn : l0.length ≤ 1000000000000000) (w : World) (hr : Kd.C k44 w A0 l0.length l0) (h1 : w.heap[Bi]? = some (.cells #[.slice A0 l0.length c0] 38 (0, 0))) (h2 : w.heap[Bo]? = some (.cells #[.int .i64 a1] 3 (0, 0))) :
  Calls Tryd.prog 31 #[.int .i64 (l0.length : Int), .func (.func 32) #[] #[.pointer (some ⟨Bi, 0, none⟩), .pointer (some ⟨Bo, 0, none⟩)]] w fun e w' => e = .returned (.int .i64 ((srchS (gtE l0 a1) (l0.length + 1) 0 l0.length : Nat) : Int)) ∧ Below w.heap.size w w' := by
 have HR := Aside0.mk hr
 have H1 := Aside0.mk h1
 have H2 := Aside0.mk h2
 clear hr h1 h2
 obtain ⟨r, hr⟩ : ∃ r, srchS (gtE l0 a1) (l0.length + 1) 0 l0.length = r := ⟨_, rfl⟩
 rw [hr]
 have HS := Aside0.mk hr
 clear hr
 go_enter Tryd.func31, Tryd.ntmps31
 go_wp2
 go_loopg [5, 6] (l0.length + 1) (fun kq v3 v4 w' => ∃ (i j : Nat), v3 = .int .i64 (i : Int) ∧ v4 = .int .i64 (j : Int) ∧ i ≤ j ∧ j ≤ l0.length ∧ j - i < kq ∧ Aside0 (srchS (gtE l0 a1) kq i j = r) ∧ Aside0 (Below w.heap.size w w'))
 case atStart => exact ⟨0, l0.length, rfl, rfl, Nat.zero_le _, Nat.le_refl _, by omega, HS, ⟨Below.refl _ _⟩⟩
 case round =>
  obtain ⟨i, j, rfl, rfl, hij, hj, hkq, HA, HB⟩ := hrel
  clear HS
  cases gk with
  | zero => exact absurd hkq (by omega)
  | succ k1 =>
   have H := HA.out
   simp only [srchS] at H
   by_cases c : i < j
   ·rw [if_pos c] at H
    obtain ⟨m, hm⟩ : ∃ m, (i + j) / 2 = m := ⟨_, rfl⟩
    rw [hm] at H
    have HH := Aside0.mk H
    clear H HA
    have c3b1 : decide (i < j) = true := decide_eq_true c
    have c3b0 : decide ((i : Int) < (j : Int)) = true := decide_eq_true (by omega)
    obtain ⟨s, hs⟩ : ∃ s : Nat, i + j = s := ⟨_, rfl⟩
    obtain ⟨hmb, e1, e2, e3, e4, e5, e6⟩ := srch_arith i j s m hs hm (Nat.le_trans hj hn) c
    have hml : m < l0.length := Nat.lt_of_lt_of_le hmb.2 hj
    have b1 := Aside0.mk hmb
    have hjj := Aside0.mk (And.intro hij (And.intro hj hkq))
    clear hs hm c hij hj hkq hmb
    have g1 := Aside0.mk hml
    clear hml
    go_wp2_with (go_at_call 32; refine (find1_calls A0 c0 l0 a1 Bi Bo m g1.out _ (Kd.C_below HR.out HB.out) (blk_below H1.out HB.out) (blk_below H2.out HB.out)).mono ?_)
    rintro e w9 ⟨rfl, hb9⟩
    have HB9 := Aside0.mk (show Below w.heap.size w w9 from HB.out.trans (hb9.mono HB.out.size))
    clear hb9
    by_cases hg : gtE l0 a1 m = true
    ·have H' : Aside0 (srchS (gtE l0 a1) k1 i m = r) := ⟨by have := HH.out; rwa [if_pos hg] at this⟩
     rw [hg]
     clear HH
     go_wp2
     go_roundg k1
     case rel => exact ⟨i, m, rfl, rfl, b1.out.1, Nat.le_of_lt g1.out, srch_m1 b1.out hjj.out, H', HB9⟩
     case measure => exact Nat.lt_succ_self _
    ·have hg2 : gtE l0 a1 m = false := by simpa using hg
     have H' : Aside0 (srchS (gtE l0 a1) k1 (m + 1) j = r) := ⟨by have := HH.out; rwa [if_neg hg] at this⟩
     rw [hg2]
     clear HH hg
     go_wp2
     go_roundg k1
     case rel => exact ⟨m + 1, j, by first | rfl | go_num, rfl, b1.out.2, hjj.out.2.1, srch_m2 b1.out hjj.out, H', HB9⟩
     case measure => exact Nat.lt_succ_self _
   ·rw [if_neg c] at H
    obtain rfl : i = j := by omega
    obtain rfl := H
    have c3b1 : decide (i < i) = false := decide_eq_false (by omega)
    have c3b0 : decide ((i : Int) < (i : Int)) = false := decide_eq_false (by omega)
    clear c
    go_wp2
    go_ret
    exact ⟨rfl, HB.out⟩
set_option maxHeartbeats 4000000 in
set_option maxRecDepth 100000 in
theorem segment_Find.calls (A0 : Option Addr) (c0 : Nat) (l0 : List S44) (a1 : Int) (r : Int) (w : World) (hr0 : Kd.C k44 w A0 l0.length l0) (hc0 : l0.length ≤ c0) (h : segment_Find.f l0 a1 = some r) :
  Calls Tryd.prog 19 #[.slice A0 l0.length c0, .int .i64 a1] w fun e w' => e = .returned (.int .i64 r) ∧ Below w.heap.size w w' := by
 unfold segment_Find.f at h
 split at h
 case isFalse => exact absurd h (by simp)
 rename_i hn
 have hsr := srchS_le (gtE l0 a1) (l0.length + 1) 0 l0.length (Nat.zero_le _)
 have HS := Aside0.mk (fun w2 hb => search_calls A0 c0 l0 a1 w.heap.size (w.heap.size + 1) hn w2 (Kd.C_below hr0 hb))
 have HR := Aside0.mk hr0
 clear hr0
 obtain ⟨k, hk⟩ : ∃ k, srchS (gtE l0 a1) (l0.length + 1) 0 l0.length = k := ⟨_, rfl⟩
 rw [hk] at h hsr HS
 clear hk
 go_enter Tryd.func19, Tryd.ntmps19
 have hB2 : Below w.heap.size w ((w.alloc (.cells #[.slice A0 l0.length c0] 38)).alloc (.cells #[.int .i64 a1] 3)) := below_alloc (below_alloc (Below.refl _ _) _) _
 have hb1 : ((w.alloc (.cells #[.slice A0 l0.length c0] 38)).alloc (.cells #[.int .i64 a1] 3)).heap[w.heap.size]? = some (.cells #[.slice A0 l0.length c0] 38 (0, 0)) := blk_alloc (heap_alloc_new w _) _
 have hb2 : ((w.alloc (.cells #[.slice A0 l0.length c0] 38)).alloc (.cells #[.int .i64 a1] 3)).heap[w.heap.size + 1]? = some (.cells #[.int .i64 a1] 3 (0, 0)) := by
  have := heap_alloc_new (w.alloc (.cells #[.slice A0 l0.length c0] 38)) (.cells #[.int .i64 a1] 3)
  rwa [World.size_alloc] at this
 have hc1 := bc1_0 hb1
 go_wp2_with (go_at_call 31; refine (HS.out _ hB2 hb1 hb2).mono ?_)
 rintro e w3 ⟨rfl, hb3⟩
 have HB3 := Aside0.mk (hB2.trans (hb3.mono hB2.size))
 have hc3 := bc1_0 (blk_below hb1 hb3)
 clear hB2 hb1 hb2 hb3 hc1
 by_cases hk : k = 0
 ·rw [if_pos hk] at h
  obtain rfl := Option.some.inj h
  subst hk
  go_wp2
  go_ret
  exact ⟨rfl, HB3.out⟩
 ·rw [if_neg hk] at h
  obtain ⟨i, rfl⟩ : ∃ i, k = i + 1 := ⟨k - 1, by omega⟩
  have hr : (rd_T44 l0 (i : Int)).f1 = r := Option.some.inj h
  have hkb0 : (((i + 1 : Nat) : Int) == 0) = false := beq_eq_false_iff_ne.mpr (by omega)
  obtain ⟨kk, hkk⟩ : ∃ kk : Int, ((i + 1 : Nat) : Int) = kk := ⟨_, rfl⟩
  have e1 : wrap64 (kk - 1) = (i : Int) := by rw [← hkk]; unfold wrap64; omega
  rw [hkk] at hkb0 ⊢
  have hil : i < l0.length := by omega
  obtain ⟨ad, e0, hx0, hx1⟩ := at_T44 HR.out (i : Int) (by omega) (by omega)
  cases e0
  rw [show ((i : Int)).toNat = i from rfl] at hx0 hx1
  replace hx1 := (HB3.out.cell (World.block_lt_of_cell? w _ hx1)).trans hx1
  have p127 := eq_true (show (0 : Int) ≤ (i : Int) by omega)
  have q127 := eq_true (show (i : Int) < (l0.length : Int) by omega)
  have q128 := eq_true hil
  clear hx0 hkk hsr hk h
  generalize rd_T44 l0 (i : Int) = x at hx1 hr
  have HRR := Aside0.mk hr
  clear hr
  go_wp2
  go_ret
  exact ⟨congrArg (fun z => Ending.returned (.int .i64 z)) HRR.out, HB3.out⟩

end Go.Proofs.YtmjgifhgodgghaaDoor.P
