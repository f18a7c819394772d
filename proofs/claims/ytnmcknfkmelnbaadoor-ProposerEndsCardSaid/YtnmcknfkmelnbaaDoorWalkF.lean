import Derived.Test.YtnmcknfkmelnbaaDoorWalkE
import Derived.Outline
import Derived.Laws.BitsAllLaws
import Derived.WalkSpells
import Derived.StillTailTactics
namespace Go.Proofs.YtnmcknfkmelnbaaDoor.P
open Go.RowKit Go.Proofs.YtnmcknfkmelnbaaDoorW.PrintWords Go.Proofs.YtnmcknfkmelnbaaDoorW.PrintLast Go.Proofs.YtnmcknfkmelnbaaDoorW.PrintMore
attribute [local go_sem] max2_int min2_int max_two min_two max_three min_three max_four min_four
set_option linter.unusedVariables false
set_option linter.unusedSimpArgs false
theorem clip_calls (A : Option Addr) (n c : Nat) (w : World) (hc : n ≤ c) (hm : n ≤ 9223372036854775807) :
    Calls Tryd.prog 34 #[.slice A n c] w fun e w' => e = .returned (.slice A n n) ∧ w' = w := by
  go_enter Tryd.func34, Tryd.ntmps34
  go_wp2
  go_ret
  exact ⟨rfl, rfl⟩
theorem PrIs.grown {w w1 : World} {g : Nat} {p : PrS} {row : Option Nat} (h : PrIs w g p) (hg : w.grownBy w1 row) (hne : some g ≠ row) : PrIs w1 g p := ⟨blk_grown h.blk hg hne, h.l1, h.l2, h.l3⟩
/-- Which of the nodes are missing. -/
def PrS.misses (p : PrS) (i : Nat) : Bool := p.nodes.getD i false && !((if p.st = 0 then p.prom else p.cntd).getD i false)
def PrS.missK (p : PrS) (k : Nat) : List Int := ((List.range k).filter p.misses).map Int.ofNat
theorem PrS.missK_succ (p : PrS) (k : Nat) : p.missK (k + 1) = if p.misses k = true then p.missK k ++ [(k : Int)] else p.missK k := by
  unfold PrS.missK
  rw [List.range_succ, List.filter_append, List.map_append]
  by_cases h : p.misses k = true
  · rw [if_pos h]; simp [h]
  · rw [if_neg h]; simp [h]
theorem PrS.missK_le (p : PrS) (k : Nat) : (p.missK k).length ≤ k := by
  unfold PrS.missK
  rw [List.length_map]
  exact Nat.le_trans (List.length_filter_le _ _) (by rw [List.length_range]; exact Nat.le_refl _)
set_option maxHeartbeats 4000000 in
set_option maxRecDepth 100000 in
theorem missing_gen (g : Nat) (p : PrS) (w : World) (HP : Aside0 (PrIs w g p)) (base : Nat) (s0 : Bool) (hs : (p.st == 0) = s0) (hbase : base = if s0 = true then 9 else 16)
    (HT : Aside0 (∀ W, PrIs W g p → ∀ k, k < 7 → W.cell? ⟨g, base + k, none⟩ = some (.bool ((if p.st = 0 then p.prom else p.cntd).getD k false)))) :
    Calls Tryd.prog 18 #[.pointer (some ⟨g, 0, none⟩)] w fun e w' => (∃ A, e = .returned (.slice A p.missing.length p.missing.length) ∧ Kd.C (Kd.int .i64) w' A p.missing.length p.missing) ∧ Below w.heap.size w w' := by
  have hpm : p.missing = p.missK 7 := rfl
  rw [hpm]
  clear hpm
  have hc28 := HP.out.high.2.2.2.2.2.1
  obtain ⟨b0, b1, b2, b3, b4, b5, b6, hN⟩ := list7 HP.out.l1
  have z0 : w.cell? ⟨g, 2, none⟩ = some (.bool b0) := by have := HP.out.nodes 0 (by decide); rw [hN] at this; exact this
  have z1 : w.cell? ⟨g, 3, none⟩ = some (.bool b1) := by have := HP.out.nodes 1 (by decide); rw [hN] at this; exact this
  have z2 : w.cell? ⟨g, 4, none⟩ = some (.bool b2) := by have := HP.out.nodes 2 (by decide); rw [hN] at this; exact this
  have z3 : w.cell? ⟨g, 5, none⟩ = some (.bool b3) := by have := HP.out.nodes 3 (by decide); rw [hN] at this; exact this
  have z4 : w.cell? ⟨g, 6, none⟩ = some (.bool b4) := by have := HP.out.nodes 4 (by decide); rw [hN] at this; exact this
  have z5 : w.cell? ⟨g, 7, none⟩ = some (.bool b5) := by have := HP.out.nodes 5 (by decide); rw [hN] at this; exact this
  have z6 : w.cell? ⟨g, 8, none⟩ = some (.bool b6) := by have := HP.out.nodes 6 (by decide); rw [hN] at this; exact this
  have HX := Aside0.mk (fun i h0 h7 w_ => ixB b0 b1 b2 b3 b4 b5 b6 i h0 h7 w_)
  rw [← hN] at HX
  clear hN
  cases s0 <;> (simp only [if_true, if_false, Bool.false_eq_true] at hbase; subst hbase)
  all_goals
    go_enter Tryd.func18, Tryd.ntmps18
    go_wp2
    clear z0 z1 z2 z3 z4 z5 z6 hc28
    go_loopg [4, 22] 8 (fun kq v4 v22 W => ∃ (k : Nat), k ≤ 7 ∧ v22 = .int .i64 (k : Int) ∧ 7 - k < kq ∧ Aside0 (PrIs W g p) ∧ Aside0 (Kd.R (Kd.int .i64) 3 W w.heap.size (fun _ => True) v4 (p.missK k)) ∧ Aside0 (Below w.heap.size w W))
    case atStart => exact ⟨0, by omega, rfl, by omega, HP, ⟨Kd.R_nil _ _ _ _ _⟩, ⟨Below.refl _ _⟩⟩
    case round =>
      obtain ⟨k, hk, rfl, hq, HPk, aa, HB⟩ := hrel
      by_cases hlt : k < 7
      · have hix := fun w_ => HX.out (k : Int) (by omega) (by omega) w_
        rw [show ((k : Int)).toNat = k from rfl] at hix
        have hct := HT.out _ HPk.out k hlt
        have HS := Aside0.mk (p.missK_succ k)
        have HL := Aside0.mk (p.missK_le k)
        unfold PrS.misses at HS
        generalize p.nodes.getD k false = x at hix HS
        generalize (if p.st = 0 then p.prom else p.cntd).getD k false = y at hct HS
        have hadd : (9 + (k : Int).toNat : Nat) = 9 + k := rfl
        cases x
        · simp only [Bool.false_and, Bool.false_eq_true, if_false] at HS
          go_wp2
          go_roundg (7 - k)
          case rel => exact ⟨k + 1, by omega, by go_num, by omega, HPk, ⟨by rw [HS.out]; exact aa.out⟩, HB⟩
          case measure => omega
        · cases y
          · simp only [Bool.true_and, Bool.not_false, if_true] at HS
            go_wp2_with ((with_reducible refine gate_builtin (b := .append) (xs := #[.tmp 35, .tmp 37]) rfl ?_); at_builtin; refine Kd.R_append (Kd.int .i64) (w0 := w) w.heap.size rfl (.tmp 35) (.tmp 37) 24 3 (.int .i64 0) 8 rfl Tryd.underlying24 info3 rfl (by decide) (by omega) u4 (p.missK k) (k : Int) [.int .i64 (k : Int)] (fun _ => True) (fun _ => False) rfl rfl ?aP (fun _ hk => hk.elim) ?aF ?aO ?aB ?aS ?aL ?_; (case aP => exact rfl); (case aB => exact bw); (case aF => exact (fun _ _ => trivial)); (case aO => exact (by (with_reducible repeat (first | apply Kd.R_alloc | apply Kd.R_drewN | apply Kd.R_drew)); exact aa.out)); (case aS => exact (below_size bw)); (case aL => have := HL.out; omega); intro v176 w6 ho hb hg hat; have HP6 := Aside0.mk (PrIs.grown HPk.out hg (Kd.R_ne aa.out HPk.out.blk (by decide))); have n0_ := Aside0.mk hb; have n1_ := Aside0.mk ho; clear ho hb hg hat)
            go_roundg (7 - k)
            case rel => exact ⟨k + 1, by omega, by go_num, by omega, HP6, ⟨by rw [HS.out]; exact n1_.out⟩, n0_⟩
            case measure => omega
          · simp only [Bool.true_and, Bool.not_true, Bool.false_eq_true, if_false] at HS
            go_wp2
            go_roundg (7 - k)
            case rel => exact ⟨k + 1, by omega, by go_num, by omega, HPk, ⟨by rw [HS.out]; exact aa.out⟩, HB⟩
            case measure => omega
      · obtain rfl : k = 7 := by omega
        obtain ⟨A9, c9, e9, hc9, hC9⟩ := Kd.R_reads aa.out
        subst e9
        have HCL := Aside0.mk (fun W => clip_calls A9 (p.missK 7).length c9 W hc9 hC9.2.1)
        have HC9 := Aside0.mk hC9
        clear hc9 hC9
        go_wp2_with (go_at_call 34; refine (HCL.out _).mono ?_; rintro e w' ⟨rfl, rfl⟩)
        go_ret
        exact ⟨⟨A9, rfl, HC9.out⟩, HB.out⟩
/-- What Missing answers. -/
theorem missing_calls (g : Nat) (p : PrS) (w : World) (h : PrIs w g p) :
    Calls Tryd.prog 18 #[.pointer (some ⟨g, 0, none⟩)] w fun e w' => (∃ A, e = .returned (.slice A p.missing.length p.missing.length) ∧ Kd.C (Kd.int .i64) w' A p.missing.length p.missing) ∧ Below w.heap.size w w' := by
  by_cases c : p.st = 0
  · exact missing_gen g p w ⟨h⟩ 9 true (beq_iff_eq.mpr c) rfl ⟨fun W hW k hk => by rw [if_pos c]; exact hW.prom k hk⟩
  · exact missing_gen g p w ⟨h⟩ 16 false (beq_eq_false_iff_ne.mpr c) rfl ⟨fun W hW k hk => by rw [if_neg c]; exact hW.cntd k hk⟩

end Go.Proofs.YtnmcknfkmelnbaaDoor.P
