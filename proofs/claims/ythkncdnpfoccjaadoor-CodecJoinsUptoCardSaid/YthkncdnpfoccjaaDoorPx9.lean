-- Printed by this session's program wip/xp.py (a turned copy of the kit's printer): functions, their contracts.
import Derived.Test.YthkncdnpfoccjaaDoorPx0
import Derived.Test.YthkncdnpfoccjaaDoorPx3
import Derived.Test.YthkncdnpfoccjaaDoorPx4
import Derived.Test.YthkncdnpfoccjaaDoorPx7
import Derived.Test.YthkncdnpfoccjaaDoorPx8
namespace Go.Proofs.YthkncdnpfoccjaaDoor.P
open Go.RowKit Go.Proofs.YthkncdnpfoccjaaDoorW.PrintWords Go.Proofs.YthkncdnpfoccjaaDoorW.PrintLast Go.Proofs.YthkncdnpfoccjaaDoorW.PrintMore
attribute [local go_sem] max2_int min2_int max_two min_two max_three min_three max_four min_four   -- for this text's walks alone
set_option linter.unusedVariables false
set_option linter.unusedSimpArgs false

/-! ### codec_Shape: function 16 -/
attribute [local go_sem] Oper.semAt_some
set_option maxHeartbeats 1000000 in
set_option maxRecDepth 100000 in
theorem bld_used (b : Nat) (w : World) (h0 : w.cell? ⟨b, 0, none⟩ = some (.pointer (some ⟨b, 0, none⟩))) :
    Calls Tryd.prog 42 #[.pointer (some ⟨b, 0, none⟩)] w fun e w' => e = .returned (.tuple #[]) ∧ w' = w := by
  obtain ⟨j, hj, _⟩ := Option.map_eq_some_iff.1 (show (Tryd.prog.info? 61).map (·.size) = some 2 by kernel_rfl)
  go_enter Tryd.func42, Tryd.ntmps42
  go_wp2
  rw [Lib.run_neq_ptr_same w _ Tryd.underlying59 hj]
  go_wp2
  go_end0
  exact ⟨rfl, rfl⟩
set_option maxHeartbeats 1000000 in
set_option maxRecDepth 100000 in
theorem bld_fresh (b : Nat) (w : World) (h0 : w.cell? ⟨b, 0, none⟩ = some (.pointer none)) (hsh : w.shape? b = some (61, 2)) (hfz : w.frozen? ⟨b, 0, none⟩ = false) :
    Calls Tryd.prog 42 #[.pointer (some ⟨b, 0, none⟩)] w fun e w' => e = .returned (.tuple #[]) ∧ w' = w.setCell ⟨b, 0, none⟩ (.pointer (some ⟨b, 0, none⟩)) := by
  obtain ⟨j, hj, hjs⟩ := Option.map_eq_some_iff.1 (show (Tryd.prog.info? 61).map (·.size) = some 2 by kernel_rfl)
  go_enter Tryd.func42, Tryd.ntmps42
  go_wp2
  rw [Lib.run_to_unsafe w ⟨b, 0, none⟩ Tryd.underlying59 (show Tryd.prog.underlying 86 = some .unsafePointer by kernel_rfl) hj (by rw [hjs]; decide) hsh (Nat.zero_lt_succ 1)]
  simp only [Result.andThen]
  rw [Oper.upon_value]
  go_wp2
  rw [run_callFunc_extern Tryd.func50 (by kernel_rfl) (by kernel_rfl) (by kernel_rfl) (e := Extern.AbiNoEscape.same) (by kernel_rfl)]
  rw [Lib.run_noEscape]
  simp only [Result.andThen]
  rw [Oper.upon_value]
  go_wp2
  rw [Lib.run_from_unsafe w ⟨b, 0, none⟩ (show Tryd.prog.underlying 86 = some .unsafePointer by kernel_rfl) Tryd.underlying59 hj hsh (by kernel_rfl)]
  simp only [Result.andThen]
  rw [Oper.upon_value]
  go_wp2
  go_end0
  exact ⟨rfl, rfl⟩
theorem bld_check (B b : Nat) (bs : List Value) (w : World) (h : Lib.IsBuilder 61 5 B b bs w) :
    Calls Tryd.prog 42 #[.pointer (some ⟨b, 0, none⟩)] w fun e w' => e = .returned (.tuple #[]) ∧ (Lib.BuilderAt 61 5 B b (.pointer (some ⟨b, 0, none⟩)) bs w' ∧ Below B w w') := by
  rcases h with h | h
  · refine (bld_fresh b w h.cell0 h.shape h.frozen0).mono ?_
    rintro e w' ⟨rfl, rfl⟩
    exact ⟨rfl, h.used _, (Below.refl B w).setCell (p := ⟨b, 0, none⟩) h.1 _⟩
  · refine (bld_used b w h.cell0).mono ?_
    rintro e w' ⟨rfl, rfl⟩
    exact ⟨rfl, h, Below.refl B _⟩
set_option maxHeartbeats 2000000 in
set_option maxRecDepth 100000 in
theorem bld_byte (B b : Nat) (bs : List Value) (c : Int) (w : World) (h : Lib.IsBuilder 61 5 B b bs w) (hlen : bs.length + 1 ≤ 140737488355328) (hBw : B ≤ w.heap.size) :
    Calls Tryd.prog 28 #[.pointer (some ⟨b, 0, none⟩), .int .u8 c] w fun e w' => e = .returned .nilIface ∧ (Lib.BuilderAt 61 5 B b (.pointer (some ⟨b, 0, none⟩)) (bs ++ [.int .u8 c]) w' ∧ Below B w w') := by
  obtain ⟨i0, hi, hz0, hz1, hz2⟩ := info_parts (show (Tryd.prog.info? 5).map (fun i => (i.zero, i.size, i.bytes)) = some (some (.int .u8 0), 1, 1) by kernel_rfl)
  go_enter Tryd.func28, Tryd.ntmps28
  go_wp2_with (go_at_call 42; refine (bld_check B b bs _ h).mono ?_)
  rintro e w1 ⟨rfl, h1, hb1⟩
  obtain ⟨hB, v, hbk, hown, hne⟩ := h1
  have c0 : w1.cell? ⟨b, 0, none⟩ = some (.pointer (some ⟨b, 0, none⟩)) := by rw [Lib.cell_of_heap hbk]; rfl
  have c1 : w1.cell? ⟨b, 1, none⟩ = some v := by rw [Lib.cell_of_heap hbk]; rfl
  go_wp2_with (at_builtin; refine wpList_append_own _ rfl _ _ 56 rfl B 5 i0 (.int .u8 0) 1 1 Tryd.underlying56 hi hz0 hz1 hz2 rfl (by decide) _ _ _ rfl (hown.alloc _) ⟨w1.heap.size, 0, none⟩ 1 1 [.int .u8 c] rfl rfl ?c1 ?c2 ?c3 ?c4 ?c5 ?_)
  case c1 =>
    intro j u hj
    match j, hj with
    | 0, hj => simp at hj; subst hj; simp [Addr.add]
  case c2 => intro u hu; simp at hu; subst hu; rfl
  case c3 => unfold maxLen; omega
  case c4 => omega
  case c5 => have := hb1.size; simp; omega
  intro v' w2 hown' hgrow _
  have hlt : b < w1.heap.size := by
    rcases Nat.lt_or_ge b w1.heap.size with h' | h'
    · exact h'
    · simp [Array.getElem?_eq_none h'] at hbk
  have hb2 : w2.heap[b]? = some (.cells #[.pointer (some ⟨b, 0, none⟩), v] 61 (0, 0)) := by
    rw [hgrow.block b (by simp; omega) (fun e => hne e.symm), Lib.alloc_old w1 _ b hlt]
    exact hbk
  have d0 : w2.cell? ⟨b, 0, none⟩ = some (.pointer (some ⟨b, 0, none⟩)) := by rw [Lib.cell_of_heap hb2]; rfl
  have d1 : w2.cell? ⟨b, 1, none⟩ = some v := by rw [Lib.cell_of_heap hb2]; rfl
  have f1 : w2.frozen? ⟨b, 1, none⟩ = false := Lib.frozen_of_heap hb2 1
  obtain ⟨g, cap, rfl⟩ : ∃ g cap, v' = .slice (some ⟨g, 0, none⟩) (bs.length + 1) cap := by
    rcases hown'.2 with ⟨_, h0⟩ | ⟨g, cap, cur, hv, _⟩
    · omega
    · exact ⟨g, cap, hv⟩
  go_wp2
  go_ret
  refine ⟨rfl, ?_, ?_⟩
  · exact Lib.BuilderAt.put (T := 61) (e := 5) hB hb2 (bs' := bs ++ [.int .u8 c]) (by simpa using hown') (by decide)
  · exact ((hb1.alloc (by have := hb1.size; omega) _).grown hgrow (by have := hb1.size; simp; omega) (fun k hk => (hown.lt k hk).1)).setCell (p := ⟨b, 1, none⟩) hB _
set_option maxHeartbeats 1000000 in
set_option maxRecDepth 100000 in
theorem bld_string (B b : Nat) (l : List UInt8) (w : World) (h : Lib.IsBuilder 61 5 B b (Lib.byteCells l) w) (h0 : l ≠ []) :
    Calls Tryd.prog 29 #[.pointer (some ⟨b, 0, none⟩)] w fun e w' => e = .returned (.string ⟨l.toArray⟩) ∧ Below B w w' := by
  obtain ⟨p, hB, v, hbk, hown, hne⟩ : ∃ p, Lib.BuilderAt 61 5 B b p (Lib.byteCells l) w := by
    rcases h with h | h
    · exact ⟨_, h⟩
    · exact ⟨_, h⟩
  have hl0 : l.length ≠ 0 := by simpa using h0
  rw [Lib.byteCells_length] at hown
  obtain ⟨g, cap, cur, rfl, hbg, hg, hnc, hcm, hcs, htake⟩ : ∃ g cap cur, v = .slice (some ⟨g, 0, none⟩) l.length cap ∧ B ≤ g ∧ w.heap[g]? = some (.cells cur 5 (0, 0)) ∧ l.length ≤ cap ∧ cap ≤ maxLen ∧ cur.size = cap * 1 ∧ cur.toList.take (l.length * 1) = Lib.byteCells l := by
    rcases hown.2 with ⟨_, hz⟩ | ⟨g, cap, cur, hv, r⟩
    · exact absurd hz hl0
    · exact ⟨g, cap, cur, hv, r⟩
  have c1 : w.drew.cell? ⟨b, 1, none⟩ = some (.slice (some ⟨g, 0, none⟩) l.length cap) := by
    have : w.drew.heap[b]? = some (.cells #[p, .slice (some ⟨g, 0, none⟩) l.length cap] 61 (0, 0)) := hbk
    rw [Lib.cell_of_heap this]; rfl
  have hSD : (Builtin.unsafeSliceData_ #[56] 80 #[.slice (some ⟨g, 0, none⟩) l.length cap]).run Tryd.prog w.drew = .ok (.pointer (some ⟨g, 0, none⟩)) w.drew :=
    Lib.run_unsafeSliceData_row _ _ _ _ _ _ (by omega)
  have hUS : (Builtin.unsafeString_ #[80, 3] 9 #[.pointer (some ⟨g, 0, none⟩), .int .i64 l.length]).run Tryd.prog w.drew = .ok (.string ⟨l.toArray⟩) (w.drew.freeze ⟨g, 0, none⟩ l.length) := by
    refine Lib.run_unsafeString_row w.drew 80 3 9 5 Tryd.underlying80 (by kernel_rfl) g cur.size (by have hg' : w.drew.heap[g]? = some (.cells cur 5 (0, 0)) := hg; simp [World.shape?, hg']) l h0 (by omega) (by unfold maxLen at hcm; omega) ?_
    intro j x hx
    have := hown.cells (g := g) rfl j (.int .u8 x.toNat) (by simp [Lib.byteCells, hx])
    exact this
  have mixed : Tryd.prog.follows .mixedOrders = true := by kernel_rfl
  go_enter Tryd.func29, Tryd.ntmps29
  go_wp2
  go_region_o
  all_goals (go_wp2; go_ret; exact ⟨rfl, Lib.below_freeze (Below.drew (Below.refl B w)) (p := ⟨g, 0, none⟩) hbg _⟩)
set_option maxHeartbeats 2000000 in
set_option maxRecDepth 100000 in
/-- Of a builder that was never written. -/
theorem bld_string_none (B b : Nat) (p : Value) (w : World) (hbk : w.heap[b]? = some (.cells #[p, .slice none 0 0] 61 (0, 0))) :
    Calls Tryd.prog 29 #[.pointer (some ⟨b, 0, none⟩)] w fun e w' => e = .returned (.string ⟨#[]⟩) ∧ Below B w w' := by
  have hUS : ∀ (W : World) (q : Option Addr), (Builtin.unsafeString_ #[80, 3] 9 #[.pointer q, .int .i64 0]).run Tryd.prog W = .ok (.string .empty) W := fun W q => Lib.run_unsafeString_none W _ _ _ q
  have c1 : w.drew.cell? ⟨b, 1, none⟩ = some (.slice none 0 0) := by
    have : w.drew.heap[b]? = some (.cells #[p, .slice none 0 0] 61 (0, 0)) := hbk
    rw [Lib.cell_of_heap this]; rfl
  have hSD : (Builtin.unsafeSliceData_ #[56] 80 #[.slice none 0 0]).run Tryd.prog w.drew = .ok (.pointer none) w.drew := rfl
  have mixed : Tryd.prog.follows .mixedOrders = true := by kernel_rfl
  go_enter Tryd.func29, Tryd.ntmps29
  go_wp2
  go_region_o
  all_goals (go_wp2; go_ret; exact ⟨rfl, Below.drew (Below.refl B w)⟩)
theorem bld_alloc {B b : Nat} {bs : List Value} {w : World} (h : Lib.IsBuilder 61 5 B b bs w) (o : Obj) : Lib.IsBuilder 61 5 B b bs (w.alloc o) := by
  have key : ∀ p, Lib.BuilderAt 61 5 B b p bs w → Lib.BuilderAt 61 5 B b p bs (w.alloc o) := by
    rintro p h
    have hlt := h.lt
    obtain ⟨hB, v, hb, hown, hne⟩ := h
    exact ⟨hB, v, (Lib.alloc_old w o b hlt).trans hb, hown.alloc _, hne⟩
  rcases h with h | h
  · exact .inl (key _ h)
  · exact .inr (key _ h)
theorem bld_below {B b : Nat} {bs : List Value} {w w' : World} (h : Lib.IsBuilder 61 5 B b bs w) (hb : Below w.heap.size w w') : Lib.IsBuilder 61 5 B b bs w' := by
  have key : ∀ p, Lib.BuilderAt 61 5 B b p bs w → Lib.BuilderAt 61 5 B b p bs w' := by
    rintro p h
    have hlt := h.lt
    obtain ⟨hB, v, hbk, hown, hne⟩ := h
    refine ⟨hB, v, (hb.block b hlt).trans hbk, hown.kept (row := none) ⟨hb.os, hb.tape, hb.output, hb.size, fun k hk _ => hb.block k hk⟩ ?_, hne⟩
    rcases v.ownBlock with _ | k
    · exact .inl rfl
    · exact .inr (by simp)
  rcases h with h | h
  · exact .inl (key _ h)
  · exact .inr (key _ h)
/-- The letter of a kind. -/
def shB (x : S32) : UInt8 := if x.f0 = 1 then 98 else if x.f0 = 2 then 119 else if x.f0 = 3 then 108 else 116
def shOk (x : S32) : Bool := decide (1 ≤ x.f0) && decide (x.f0 ≤ 4)
def codec_Shape.f (l0 : List (S32)) : Option (ByteArray × Int) :=
  if l0.length < 140737488351232 then (if l0.all shOk then some (⟨(l0.map shB).toArray⟩, 0) else some (⟨#[]⟩, 1)) else none
theorem take_snoc_rd (l : List (S32)) (n : Nat) (h : n < l.length) : l.take (n + 1) = l.take n ++ [rd_T32 l (n : Int)] := by
  rw [List.take_succ_eq_append_getElem h]
  simp [rd_T32, List.getD_eq_getElem?_getD, List.getElem?_eq_getElem h]
set_option maxHeartbeats 8000000 in
set_option maxRecDepth 100000 in
theorem codec_Shape.calls (A0 : Option Addr) (c0 : Nat) (l0 : List (S32)) (r1 : ByteArray) (r2 : Int) (w : World) (hr0 : Kd.C k32 w A0 l0.length l0) (hc0 : l0.length ≤ c0) (h : codec_Shape.f l0 = some (r1, r2)) :
    Calls Tryd.prog 16 #[.slice A0 l0.length c0] w fun e w' => e = .returned (.tuple #[.string r1, .int .i64 r2]) ∧ Below w.heap.size w w' := by
  unfold codec_Shape.f at h
  by_cases hn : l0.length < 140737488351232
  case neg => rw [if_neg hn] at h; exact absurd h (by simp)
  rw [if_pos hn] at h
  have HR0 := Aside0.mk hr0
  have HC0 := Aside0.mk hc0
  have HH := Aside0.mk h
  have hBW := below_alloc (Below.refl w.heap.size w) (.cells #[.pointer none, .slice none 0 0] 61)
  have HBW := Aside0.mk hBW
  have HIB := Aside0.mk (Lib.fresh_isBuilder 61 5 w)
  have HNW := Aside0.mk (blk_new w (.cells #[.pointer none, .slice none 0 0] 61))
  clear hr0 hc0 h hBW
  go_enter Tryd.func16, Tryd.ntmps16
  go_wp2
  go_loopg [9] (l0.length + 1) (fun kq v9 w' => ∃ (n : Nat), v9 = .int .i64 (n : Int) ∧ n ≤ l0.length ∧ kq + n = l0.length + 1 ∧ Aside0 (∀ x ∈ l0.take n, shOk x = true) ∧ Aside0 (Below w.heap.size w w') ∧ Aside0 (Lib.IsBuilder 61 5 w.heap.size w.heap.size (Lib.byteCells ((l0.take n).map shB)) w') ∧ Aside0 (n = 0 → w'.heap[w.heap.size]? = some (.cells #[.pointer none, .slice none 0 0] 61 (0, 0))))
  case atStart => exact ⟨0, rfl, Nat.zero_le _, by omega, ⟨by simp⟩, HBW, HIB, ⟨fun _ => HNW.out⟩⟩
  case round =>
    obtain ⟨n, rfl, hnl, hkq, HA, HB, HI, HZ⟩ := hrel
    cases gk with
    | zero => exact absurd hkq (by omega)
    | succ k1 =>
      by_cases hlt : n < l0.length
      · have c3b0 : decide ((n : Int) < (l0.length : Int)) = true := decide_eq_true (by omega)
        have c3b1 : decide (n < l0.length) = true := decide_eq_true hlt
        obtain ⟨ad, e0, hx0, hx1, hx2⟩ := at_T32 HR0.out (n : Int) (by omega) (by omega)
        cases e0
        rw [show (n : Int).toNat = n from rfl] at hx0 hx1 hx2
        replace hx0 := (HB.out.cell (World.block_lt_of_cell? w _ hx0)).trans hx0
        replace hx1 := (HB.out.cell (World.block_lt_of_cell? w _ hx1)).trans hx1
        replace hx2 := (HB.out.cell (World.block_lt_of_cell? w _ hx2)).trans hx2
        have p127 := eq_true (show (0 : Int) ≤ (n : Int) by omega)
        have q127 := eq_true (show (n : Int) < (l0.length : Int) by omega)
        have HX := Aside0.mk (take_snoc_rd l0 n hlt)
        generalize rd_T32 l0 (n : Int) = x at hx0 hx1 hx2 HX
        obtain ⟨x0, x1, x2⟩ := x
        dsimp only at hx0 hx1 hx2
        by_cases hk : 1 ≤ x0 ∧ x0 ≤ 4
        · have HBo := HB
          clear HB
          have HB := Aside0.mk (Below.refl wr.heap.size wr)
          have hOk : shOk ⟨x0, x1, x2⟩ = true := by simp [shOk, hk.1, hk.2]
          have HA2 : Aside0 (∀ x ∈ l0.take (n + 1), shOk x = true) := ⟨by
            rw [HX.out]
            intro y hy
            rcases List.mem_append.1 hy with hy | hy
            · exact HA.out y hy
            · obtain rfl := List.mem_singleton.1 hy; exact hOk⟩
          have HT2 := Aside0.mk (congrArg (List.map shB) HX.out)
          rw [List.map_append, List.map_cons, List.map_nil] at HT2
          have HL2 : Aside0 (((l0.take n).map shB).length = n) := ⟨by simp; omega⟩
          clear hOk HX HA
          obtain ⟨c, hc⟩ : ∃ c : UInt8, c = shB ⟨x0, x1, x2⟩ := ⟨_, rfl⟩
          rw [← hc] at HT2
          have hk4 : x0 = 1 ∨ x0 = 2 ∨ x0 = 3 ∨ x0 = 4 := by omega
          clear hk
          have HBT : Aside0 (Lib.byteCells ((l0.take (n + 1)).map shB) = Lib.byteCells ((l0.take n).map shB) ++ [.int .u8 (c.toNat : Int)]) := ⟨by rw [HT2.out]; simp [Lib.byteCells]⟩
          clear HT2
          rcases hk4 with rfl | rfl | rfl | rfl
          all_goals
            simp only [shB] at hc
            subst hc
            go_wp2_with (first | ((with_reducible refine gate_dst (N := 6) rfl ?_); refine box_event ?hg (N := 6) ?hd (cs := #[.int .i64 0, .int .u64 0, .string (⟨#[]⟩ : ByteArray)]) (t := 32) ?hr ?_; (case hd => rfl); (case hg => rfl); (case hr => first | (go_simp; done) | (go_simp; rfl)); intro gb128 hg w7 hbox hb; have n1_ := Aside0.mk (below_step bw hb); have n2_ := Aside0.mk (hbox); have n3_ := Aside0.mk ((g1 hg bw : wr.heap.size ≤ gb128)); clear HB; have HB := n1_; have BK128 := n2_; have GE128 := n3_; clear n1_ n2_ n3_; clear hb hbox hg; have hcz8_0 := bc3_0 BK128.out; have hcz8_1 := bc3_1 BK128.out; have hcz8_2 := bc3_2 BK128.out; have hfz8_0 := blk_frozen BK128.out 0; have hfz8_1 := blk_frozen BK128.out 1; have hfz8_2 := blk_frozen BK128.out 2))
            refine (bld_byte w.heap.size w.heap.size (Lib.byteCells ((l0.take n).map shB)) _ _ (bld_below HI.out bw) ?_ ?_).mono ?_
            · rw [Lib.byteCells_length, HL2.out]; omega
            · exact Nat.le_trans HBo.out.size (below_size bw)
            rintro e w9 ⟨rfl, h9, hb9⟩
            have HB9 := Aside0.mk (show Below w.heap.size w w9 from (HBo.out.trans (Below.mono bw HBo.out.size)).trans hb9)
            have H9 := Aside0.mk (show Lib.IsBuilder 61 5 w.heap.size w.heap.size (Lib.byteCells ((l0.take (n + 1)).map shB)) w9 by rw [HBT.out]; exact .inr h9)
            clear h9 hb9
            go_wp2
            go_roundg k1
            case rel => exact ⟨n + 1, by go_num, by omega, by omega, HA2, HB9, H9, ⟨fun h0 => absurd h0 (by omega)⟩⟩
            case measure => exact Nat.lt_succ_self _
        · have hOk : shOk ⟨x0, x1, x2⟩ = false := by
            simp only [shOk, Bool.and_eq_false_iff, decide_eq_false_iff_not]; omega
          have hf : l0.all shOk = false := by
            rw [List.all_eq_false]
            exact ⟨⟨x0, x1, x2⟩, List.mem_of_mem_take (i := n + 1) (by rw [HX.out]; simp), by rw [hOk]; simp⟩
          have HH2 := HH.out
          rw [hf] at HH2
          simp only [Bool.false_eq_true, if_false, Option.some.injEq, Prod.mk.injEq] at HH2
          obtain ⟨rfl, rfl⟩ := HH2
          clear hOk hf
          have cc : (decide (x0 < 1) = true ∧ True) ∨ (decide (x0 < 1) = false ∧ decide (4 < x0) = true) := by
            by_cases h1 : x0 < 1
            · exact .inl ⟨decide_eq_true h1, trivial⟩
            · exact .inr ⟨decide_eq_false h1, decide_eq_true (by omega)⟩
          clear hk
          rcases cc with ⟨cc1, _⟩ | ⟨cc1, cc2⟩
          all_goals
            go_wp2_with (first | ((with_reducible refine gate_dst (N := 6) rfl ?_); refine box_event ?hg (N := 6) ?hd (cs := #[.int .i64 0, .int .u64 0, .string (⟨#[]⟩ : ByteArray)]) (t := 32) ?hr ?_; (case hd => rfl); (case hg => rfl); (case hr => first | (go_simp; done) | (go_simp; rfl)); intro gb128 hg w7 hbox hb; have n1_ := Aside0.mk (below_step bw hb); have n2_ := Aside0.mk (hbox); have n3_ := Aside0.mk ((g1 hg bw : w.heap.size ≤ gb128)); clear HB; have HB := n1_; have BK128 := n2_; have GE128 := n3_; clear n1_ n2_ n3_; clear hb hbox hg; have hcz8_0 := bc3_0 BK128.out; have hcz8_1 := bc3_1 BK128.out; have hcz8_2 := bc3_2 BK128.out; have hfz8_0 := blk_frozen BK128.out 0; have hfz8_1 := blk_frozen BK128.out 1; have hfz8_2 := blk_frozen BK128.out 2))
            go_ret2
            exact ⟨er, bw⟩
      · obtain rfl : n = l0.length := by omega
        have c3b0 : decide ((l0.length : Int) < (l0.length : Int)) = false := decide_eq_false (by omega)
        have hf : l0.all shOk = true := by
          rw [List.all_eq_true]
          have := HA.out
          rwa [List.take_length] at this
        have HH2 := HH.out
        rw [hf, if_pos rfl] at HH2
        simp only [Option.some.injEq, Prod.mk.injEq] at HH2
        obtain ⟨rfl, rfl⟩ := HH2
        clear hf
        have HI2 := HI.out
        rw [List.take_length] at HI2
        go_wp2_with fail
        by_cases h0 : l0.length = 0
        · refine (bld_string_none w.heap.size _ _ _ (HZ.out h0)).mono ?_
          rintro e w9 ⟨rfl, hb9⟩
          have e0 : l0 = [] := List.length_eq_zero_iff.1 h0
          have HB9 := Aside0.mk (show Below w.heap.size w w9 from HB.out.trans hb9)
          have HE := Aside0.mk (show (⟨#[]⟩ : ByteArray) = ⟨(l0.map shB).toArray⟩ by rw [e0]; rfl)
          clear e0
          go_wp2
          go_ret2
          exact ⟨congrArg (fun s => Ending.returned (.tuple #[.string s, .int .i64 0])) HE.out, HB9.out⟩
        · refine (bld_string w.heap.size w.heap.size (l0.map shB) _ HI2 (by intro e; exact h0 (by simpa using congrArg List.length e))).mono ?_
          rintro e w9 ⟨rfl, hb9⟩
          have HB9 := Aside0.mk (show Below w.heap.size w w9 from HB.out.trans hb9)
          go_wp2
          go_ret2
          exact ⟨er, HB9.out⟩

/-! ### carillonref01_Shape: function 17 -/
def carillonref01_Shape.l0 : Nat → List (S32) → ByteArray → Int → Option (ByteArray × Bool)
  | 0, _, _, _ => none
  | k + 1, x0, x4, x5 => if x5 < (x0.length : Int) then (if 0 ≤ x5 then (if ((rd_T32 x0 x5).f0) < 1 then (some ((⟨#[]⟩ : ByteArray), false)) else (if ((rd_T32 x0 x5).f0) > 4 then (some ((⟨#[]⟩ : ByteArray), false)) else (if 0 ≤ (wrap64 (((rd_T32 x0 x5).f0) - 1)) then (if (wrap64 (((rd_T32 x0 x5).f0) - 1)) ≤ ((rd_T32 x0 x5).f0) then (if ((rd_T32 x0 x5).f0) ≤ 4 then (if x4.size + ((⟨#[98, 119, 108, 116]⟩ : ByteArray).extract ((wrap64 (((rd_T32 x0 x5).f0) - 1)) : Int).toNat (((rd_T32 x0 x5).f0) : Int).toNat).size ≤ 9223372036854775807 then (carillonref01_Shape.l0 k x0 (x4 ++ ((⟨#[98, 119, 108, 116]⟩ : ByteArray).extract ((wrap64 (((rd_T32 x0 x5).f0) - 1)) : Int).toNat (((rd_T32 x0 x5).f0) : Int).toNat)) (wrap64 (x5 + 1))) else (none)) else (none)) else (none)) else (none)))) else (none)) else (some (x4, true))
def carillonref01_Shape.f (k : Nat) (l0 : List (S32)) : Option (ByteArray × Bool) := carillonref01_Shape.l0 k l0 (⟨#[]⟩ : ByteArray) 0
theorem carillonref01_Shape.mono_l : ∀ k, (∀ y0 y1 y2, LeO (carillonref01_Shape.l0 k y0 y1 y2) (carillonref01_Shape.l0 (k + 1) y0 y1 y2))
  | 0 => fun _ _ _ r h => by simp [carillonref01_Shape.l0] at h
  | k + 1 => by
    have ih0 := carillonref01_Shape.mono_l k
    · intro y0 y1 y2
      unfold carillonref01_Shape.l0
      repeat' first
      | (with_reducible exact ih0 _ _ _)
      | (with_reducible exact LeO.refl _)
      | (with_reducible exact LeO.none _)
      | (with_reducible refine LeO.ite ?_ ?_)
      | (with_reducible refine LeO.bind ?_ (fun _ => ?_))
      | exact ih0 _ _ _
      | exact LeO.none _
      | refine LeO.ite ?_ ?_
      | refine LeO.bind ?_ (fun _ => ?_)
theorem carillonref01_Shape.mono : ∀ a0 k, LeO (carillonref01_Shape.f k a0) (carillonref01_Shape.f (k + 1) a0) := by
  intro a0 k
  have ih0 := carillonref01_Shape.mono_l k
  unfold carillonref01_Shape.f
  repeat' first
      | (with_reducible exact ih0 _ _ _)
      | (with_reducible exact LeO.refl _)
      | (with_reducible exact LeO.none _)
      | (with_reducible refine LeO.ite ?_ ?_)
      | (with_reducible refine LeO.bind ?_ (fun _ => ?_))
      | exact ih0 _ _ _
      | exact LeO.none _
      | refine LeO.ite ?_ ?_
      | refine LeO.bind ?_ (fun _ => ?_)
set_option maxHeartbeats 8000000 in
set_option maxRecDepth 100000 in
theorem carillonref01_Shape.calls (k : Nat) (A0 : Option Addr) (c0 : Nat) (l0 : List (S32)) (r1 : ByteArray) (r2 : Bool) (w : World) (hr0 : Kd.C k32 w A0 l0.length l0) (hc0 : l0.length ≤ c0) (h : carillonref01_Shape.f k l0 = some (r1, r2)) :
    Calls Tryd.prog 17 #[.slice A0 l0.length c0] w fun e w' => e = .returned (.tuple #[.string r1, .bool r2]) ∧ Drawn0 w w' := by
  have HR0 := Aside0.mk hr0
  have HC0 := Aside0.mk hc0
  clear hr0 hc0
  have H : (carillonref01_Shape.l0 k l0 (⟨#[]⟩ : ByteArray) 0) = some (r1, r2) := h
  clear h
  have H' := Aside0.mk H
  clear H
  go_enter Tryd.func17, Tryd.ntmps17
  go_wp2
  go_loopg [4, 5] k (fun kq v4 v5 w' => ∃ (x4_1 : ByteArray) (x5_1 : Int), v4 = .string x4_1 ∧ v5 = .int .i64 x5_1 ∧ Aside0 (carillonref01_Shape.l0 kq l0 x4_1 x5_1 = some (r1, r2)) ∧ Aside0 (kq ≤ k) ∧ Drawn0 w w')
  case atStart => exact ⟨((⟨#[]⟩ : ByteArray)), (0), (by first | rfl | (simp; done) | (simp [*]; done)), (by first | rfl | (simp; done) | (simp [*]; done)), H', ⟨Nat.le_refl _⟩, by repeat (first | exact Drawn0.refl _ | apply Drawn0.step)⟩
  case round =>
    clear H'
    try clear c1
    obtain ⟨x4_1, x5_1, rfl, rfl, HA, HK1, ⟨m1, rfl⟩⟩ := hrel
    cases gk with
    | zero => exact absurd HA.out (by simp [carillonref01_Shape.l0])
    | succ k1 =>
      have H := HA.out
      clear HA
      simp only [carillonref01_Shape.l0] at H
      by_cases c2 : x5_1 < (l0.length : Int)
      · rw [if_pos c2] at H
        have c2b0 : decide (x5_1 < (l0.length : Int)) = true := decide_eq_true c2
        clear c2
        by_cases c3 : 0 ≤ x5_1
        · rw [if_pos c3] at H
          have c3b0 : decide (0 ≤ x5_1) = true := decide_eq_true c3
          clear c3
          by_cases c4 : ((rd_T32 l0 x5_1).f0) < 1
          · rw [if_pos c4] at H
            have c4b0 : decide (((rd_T32 l0 x5_1).f0) < 1) = true := decide_eq_true c4
            clear c4
            simp only [Option.some.injEq, Prod.mk.injEq] at H
            obtain ⟨rfl, rfl⟩ := H
            have p277 : 0 ≤ (x5_1 : Int) := of_decide_eq_true (by first | (with_reducible assumption) | assumption)
            have q277 : x5_1 < (l0.length : Int) := of_decide_eq_true (by first | (with_reducible assumption) | assumption)
            obtain ⟨ad277, e277, hx277_0, hx277_1, hx277_2⟩ := at_T32 HR0.out x5_1 p277 q277
            cases e277
            replace p277 := eq_true p277
            replace q277 := eq_true q277
            go_wp2
            go_ret2
            exact ⟨by first | rfl | (simp; done) | (simp [*]; done), by repeat (first | exact Drawn0.refl _ | apply Drawn0.step)⟩
          · rw [if_neg c4] at H
            have c4b0 : decide (((rd_T32 l0 x5_1).f0) < 1) = false := decide_eq_false c4
            clear c4
            by_cases c5 : ((rd_T32 l0 x5_1).f0) > 4
            · rw [if_pos c5] at H
              have c5b0 : decide (4 < ((rd_T32 l0 x5_1).f0)) = true := decide_eq_true c5
              clear c5
              simp only [Option.some.injEq, Prod.mk.injEq] at H
              obtain ⟨rfl, rfl⟩ := H
              have p277 : 0 ≤ (x5_1 : Int) := of_decide_eq_true (by first | (with_reducible assumption) | assumption)
              have q277 : x5_1 < (l0.length : Int) := of_decide_eq_true (by first | (with_reducible assumption) | assumption)
              obtain ⟨ad277, e277, hx277_0, hx277_1, hx277_2⟩ := at_T32 HR0.out x5_1 p277 q277
              cases e277
              replace p277 := eq_true p277
              replace q277 := eq_true q277
              go_wp2
              go_ret2
              exact ⟨by first | rfl | (simp; done) | (simp [*]; done), by repeat (first | exact Drawn0.refl _ | apply Drawn0.step)⟩
            · rw [if_neg c5] at H
              have c5b0 : decide (4 < ((rd_T32 l0 x5_1).f0)) = false := decide_eq_false c5
              clear c5
              obtain ⟨ji6, hji6⟩ : ∃ j_ : Int, (wrap64 (((rd_T32 l0 x5_1).f0) - 1)) = j_ := ⟨_, rfl⟩
              replace H : (if 0 ≤ (ji6) then (if (ji6) ≤ ((rd_T32 l0 x5_1).f0) then (if ((rd_T32 l0 x5_1).f0) ≤ 4 then (if x4_1.size + ((⟨#[98, 119, 108, 116]⟩ : ByteArray).extract ((ji6) : Int).toNat (((rd_T32 l0 x5_1).f0) : Int).toNat).size ≤ 9223372036854775807 then (carillonref01_Shape.l0 k1 l0 (x4_1 ++ ((⟨#[98, 119, 108, 116]⟩ : ByteArray).extract ((ji6) : Int).toNat (((rd_T32 l0 x5_1).f0) : Int).toNat)) (wrap64 (x5_1 + 1))) else (none)) else (none)) else (none)) else (none)) = some (r1, r2) := by first | (rw [hji6] at H; exact H) | (simp only [hji6] at H ⊢; exact H)
              have hji6w : (IntKind.i64.wrap (((rd_T32 l0 x5_1).f0) - 1)) = ji6 := (i64_w _).trans hji6
              by_cases c7 : 0 ≤ (ji6)
              · rw [if_pos c7] at H
                have c7b0 := eq_true c7
                have c7b1 : decide (0 ≤ (ji6)) = true := decide_eq_true c7
                clear c7
                by_cases c8 : (ji6) ≤ ((rd_T32 l0 x5_1).f0)
                · rw [if_pos c8] at H
                  have c8b0 := eq_true c8
                  have c8b1 : decide ((ji6) ≤ ((rd_T32 l0 x5_1).f0)) = true := decide_eq_true c8
                  clear c8
                  by_cases c9 : ((rd_T32 l0 x5_1).f0) ≤ 4
                  · rw [if_pos c9] at H
                    have c9b0 := eq_true c9
                    have c9b1 : decide (((rd_T32 l0 x5_1).f0) ≤ 4) = true := decide_eq_true c9
                    clear c9
                    by_cases c10 : x4_1.size + ((⟨#[98, 119, 108, 116]⟩ : ByteArray).extract ((ji6) : Int).toNat (((rd_T32 l0 x5_1).f0) : Int).toNat).size ≤ 9223372036854775807
                    · rw [if_pos c10] at H
                      have c10b0 := eq_true c10
                      have c10b1 : decide (x4_1.size + ((⟨#[98, 119, 108, 116]⟩ : ByteArray).extract ((ji6) : Int).toNat (((rd_T32 l0 x5_1).f0) : Int).toNat).size ≤ 9223372036854775807) = true := decide_eq_true c10
                      try have c10b2 : (9223372036854775807 < x4_1.size + ((⟨#[98, 119, 108, 116]⟩ : ByteArray).extract ((ji6) : Int).toNat (((rd_T32 l0 x5_1).f0) : Int).toNat).size) = False := eq_false (Nat.not_lt.2 c10)
                      have H' := Aside0.mk H
                      clear H
                      have p277 : 0 ≤ (x5_1 : Int) := of_decide_eq_true (by first | (with_reducible assumption) | assumption)
                      have q277 : x5_1 < (l0.length : Int) := of_decide_eq_true (by first | (with_reducible assumption) | assumption)
                      obtain ⟨ad277, e277, hx277_0, hx277_1, hx277_2⟩ := at_T32 HR0.out x5_1 p277 q277
                      cases e277
                      replace p277 := eq_true p277
                      replace q277 := eq_true q277
                      go_wp2
                      go_roundg k1
                      case measure => have := HK1.out; omega
                      case rel => (try rw [hji6]); exact ⟨(x4_1 ++ ((⟨#[98, 119, 108, 116]⟩ : ByteArray).extract ((ji6) : Int).toNat (((rd_T32 l0 x5_1).f0) : Int).toNat)), (wrap64 (x5_1 + 1)), (by first | rfl | (simp; done) | (simp only [← hji6] <;> (first | rfl | simp)) | (simp [*]; done)), (by first | rfl | (simp; done) | (simp [*]; done)), H', ⟨by have := HK1.out; omega⟩, by repeat (first | exact Drawn0.refl _ | apply Drawn0.step)⟩
                    · rw [if_neg c10] at H
                      exact absurd H (by simp)
                  · rw [if_neg c9] at H
                    exact absurd H (by simp)
                · rw [if_neg c8] at H
                  exact absurd H (by simp)
              · rw [if_neg c7] at H
                exact absurd H (by simp)
        · rw [if_neg c3] at H
          exact absurd H (by simp)
      · rw [if_neg c2] at H
        have c2b0 : decide (x5_1 < (l0.length : Int)) = false := decide_eq_false c2
        clear c2
        simp only [Option.some.injEq, Prod.mk.injEq] at H
        obtain ⟨rfl, rfl⟩ := H
        go_wp2
        go_ret2
        exact ⟨by first | rfl | (simp; done) | (simp [*]; done), by repeat (first | exact Drawn0.refl _ | apply Drawn0.step)⟩

/-! ### carillonlaw01_CodecWrites: function 4 -/
def carillonlaw01_CodecWrites.f (k : Nat) (l0 : List (S32)) : Option (Bool) := (carillonlaw01_examples.f).bind fun t278 => (if ([] : List (S32)).length + l0.length < 4398046511104 then ((some (([] : List (S32)) ++ l0 : List (S32))).bind fun y279 => ((codec_Encode.f k y279).bind fun bt282 => ((carillonref01_Encode.f k l0).bind fun bt284 => ((codec_Shape.f y279).bind fun bt286 => ((carillonref01_Shape.f k l0).bind fun bt288 => ((carillonlaw01_same.f k y279 l0).bind fun t290 => (if t278 = true then (if bt282.1.toList = bt284.1.toList then (if bt282.2 = bt284.2 then (if bt286.1.toList = bt288.1.toList then (if ((bt286.2 == 0) == bt288.2) = true then (if bt288.2 = true then (some t290) else (if bt286.2 = 1 then (some t290) else (some false))) else (some false)) else (some false)) else (some false)) else (some false)) else (some false)))))))) else (none))
theorem carillonlaw01_CodecWrites.mono : ∀ a0 k, LeO (carillonlaw01_CodecWrites.f k a0) (carillonlaw01_CodecWrites.f (k + 1) a0) := by
  intro a0 k
  unfold carillonlaw01_CodecWrites.f
  repeat' first
      | (with_reducible exact carillonlaw01_same.mono _ _ _)
      | (with_reducible exact carillonref01_Encode.mono _ _)
      | (with_reducible exact carillonref01_Shape.mono _ _)
      | (with_reducible exact codec_Encode.mono _ _)
      | (with_reducible exact LeO.refl _)
      | (with_reducible exact LeO.none _)
      | (with_reducible refine LeO.ite ?_ ?_)
      | (with_reducible refine LeO.bind ?_ (fun _ => ?_))
      | exact carillonlaw01_same.mono _ _ _
      | exact carillonref01_Encode.mono _ _
      | exact carillonref01_Shape.mono _ _
      | exact codec_Encode.mono _ _
      | exact LeO.none _
      | refine LeO.ite ?_ ?_
      | refine LeO.bind ?_ (fun _ => ?_)
set_option maxHeartbeats 8000000 in
set_option maxRecDepth 100000 in
theorem carillonlaw01_CodecWrites.calls (k : Nat) (A0 : Option Addr) (c0 : Nat) (l0 : List (S32)) (r : Bool) (w : World) (hr0 : Kd.C k32 w A0 l0.length l0) (hc0 : l0.length ≤ c0) (hr_ : Aside0 (r = true)) (HT_ : TabOk w) (h : carillonlaw01_CodecWrites.f k l0 = some r) :
    Calls Tryd.prog 4 #[.slice A0 l0.length c0] w fun e w' => e = .returned (.bool r) ∧ Below w.heap.size w w' := by
  have HT := Aside0.mk HT_
  clear HT_
  have HR0 := Aside0.mk hr0
  have HC0 := Aside0.mk hc0
  clear hr0 hc0
  have HB := Aside0.mk (Below.refl w.heap.size w)
  have H : ((carillonlaw01_examples.f).bind fun t278 => (if ([] : List (S32)).length + l0.length < 4398046511104 then ((some (([] : List (S32)) ++ l0 : List (S32))).bind fun y279 => ((codec_Encode.f k y279).bind fun bt282 => ((carillonref01_Encode.f k l0).bind fun bt284 => ((codec_Shape.f y279).bind fun bt286 => ((carillonref01_Shape.f k l0).bind fun bt288 => ((carillonlaw01_same.f k y279 l0).bind fun t290 => (if t278 = true then (if bt282.1.toList = bt284.1.toList then (if bt282.2 = bt284.2 then (if bt286.1.toList = bt288.1.toList then (if ((bt286.2 == 0) == bt288.2) = true then (if bt288.2 = true then (some t290) else (if bt286.2 = 1 then (some t290) else (some false))) else (some false)) else (some false)) else (some false)) else (some false)) else (some false)))))))) else (none))) = some r := h
  clear h
  replace H := Option.bind_eq_some_iff.mp H
  obtain ⟨t278, A20, H⟩ := H
  replace H : (if ([] : List (S32)).length + l0.length < 4398046511104 then ((some (([] : List (S32)) ++ l0 : List (S32))).bind fun y279 => ((codec_Encode.f k y279).bind fun bt282 => ((carillonref01_Encode.f k l0).bind fun bt284 => ((codec_Shape.f y279).bind fun bt286 => ((carillonref01_Shape.f k l0).bind fun bt288 => ((carillonlaw01_same.f k y279 l0).bind fun t290 => (if t278 = true then (if bt282.1.toList = bt284.1.toList then (if bt282.2 = bt284.2 then (if bt286.1.toList = bt288.1.toList then (if ((bt286.2 == 0) == bt288.2) = true then (if bt288.2 = true then (some t290) else (if bt286.2 = 1 then (some t290) else (some false))) else (some false)) else (some false)) else (some false)) else (some false)) else (some false)))))))) else (none)) = some r := H
  have A2 := Aside0.mk A20
  clear A20
  by_cases c3 : ([] : List (S32)).length + l0.length < 4398046511104
  · rw [if_pos c3] at H
    have LMc3 := Aside0.mk c3
    clear c3
    obtain ⟨y279, hy279⟩ : ∃ y_ : List (S32), y_ = (([] : List (S32)) ++ l0) := ⟨_, rfl⟩
    replace H : ((codec_Encode.f k y279).bind fun bt282 => ((carillonref01_Encode.f k l0).bind fun bt284 => ((codec_Shape.f y279).bind fun bt286 => ((carillonref01_Shape.f k l0).bind fun bt288 => ((carillonlaw01_same.f k y279 l0).bind fun t290 => (if t278 = true then (if bt282.1.toList = bt284.1.toList then (if bt282.2 = bt284.2 then (if bt286.1.toList = bt288.1.toList then (if ((bt286.2 == 0) == bt288.2) = true then (if bt288.2 = true then (some t290) else (if bt286.2 = 1 then (some t290) else (some false))) else (some false)) else (some false)) else (some false)) else (some false)) else (some false))))))) = some r := by first | (rw [hy279]; with_reducible exact H) | (have H2_ := (Option.bind_some _ _).symm.trans H; rw [hy279]; with_reducible exact H2_) | (have H2_ := (Option.bind_some _ _).symm.trans H; with_reducible exact H2_) | with_reducible exact H | (rw [hy279]; exact H) | exact H
    have Ny279 := Aside0.mk hy279
    clear hy279
    replace H := Option.bind_eq_some_iff.mp H
    obtain ⟨⟨t282, t283⟩, A40, H⟩ := H
    replace H : ((carillonref01_Encode.f k l0).bind fun bt284 => ((codec_Shape.f y279).bind fun bt286 => ((carillonref01_Shape.f k l0).bind fun bt288 => ((carillonlaw01_same.f k y279 l0).bind fun t290 => (if t278 = true then (if t282.toList = bt284.1.toList then (if t283 = bt284.2 then (if bt286.1.toList = bt288.1.toList then (if ((bt286.2 == 0) == bt288.2) = true then (if bt288.2 = true then (some t290) else (if bt286.2 = 1 then (some t290) else (some false))) else (some false)) else (some false)) else (some false)) else (some false)) else (some false)))))) = some r := H
    have A4 := Aside0.mk A40
    clear A40
    replace H := Option.bind_eq_some_iff.mp H
    obtain ⟨⟨t284, t285⟩, A50, H⟩ := H
    replace H : ((codec_Shape.f y279).bind fun bt286 => ((carillonref01_Shape.f k l0).bind fun bt288 => ((carillonlaw01_same.f k y279 l0).bind fun t290 => (if t278 = true then (if t282.toList = t284.toList then (if t283 = t285 then (if bt286.1.toList = bt288.1.toList then (if ((bt286.2 == 0) == bt288.2) = true then (if bt288.2 = true then (some t290) else (if bt286.2 = 1 then (some t290) else (some false))) else (some false)) else (some false)) else (some false)) else (some false)) else (some false))))) = some r := H
    have A5 := Aside0.mk A50
    clear A50
    replace H := Option.bind_eq_some_iff.mp H
    obtain ⟨⟨t286, t287⟩, A60, H⟩ := H
    replace H : ((carillonref01_Shape.f k l0).bind fun bt288 => ((carillonlaw01_same.f k y279 l0).bind fun t290 => (if t278 = true then (if t282.toList = t284.toList then (if t283 = t285 then (if t286.toList = bt288.1.toList then (if ((t287 == 0) == bt288.2) = true then (if bt288.2 = true then (some t290) else (if t287 = 1 then (some t290) else (some false))) else (some false)) else (some false)) else (some false)) else (some false)) else (some false)))) = some r := H
    have A6 := Aside0.mk A60
    clear A60
    replace H := Option.bind_eq_some_iff.mp H
    obtain ⟨⟨t288, t289⟩, A70, H⟩ := H
    replace H : ((carillonlaw01_same.f k y279 l0).bind fun t290 => (if t278 = true then (if t282.toList = t284.toList then (if t283 = t285 then (if t286.toList = t288.toList then (if ((t287 == 0) == t289) = true then (if t289 = true then (some t290) else (if t287 = 1 then (some t290) else (some false))) else (some false)) else (some false)) else (some false)) else (some false)) else (some false))) = some r := H
    have A7 := Aside0.mk A70
    clear A70
    replace H := Option.bind_eq_some_iff.mp H
    obtain ⟨t290, A80, H⟩ := H
    replace H : (if t278 = true then (if t282.toList = t284.toList then (if t283 = t285 then (if t286.toList = t288.toList then (if ((t287 == 0) == t289) = true then (if t289 = true then (some t290) else (if t287 = 1 then (some t290) else (some false))) else (some false)) else (some false)) else (some false)) else (some false)) else (some false)) = some r := H
    have A8 := Aside0.mk A80
    clear A80
    by_cases c9 : t278 = true
    · subst c9
      have H1 : (if t282.toList = t284.toList then (if t283 = t285 then (if t286.toList = t288.toList then (if ((t287 == 0) == t289) = true then (if t289 = true then (some t290) else (if t287 = 1 then (some t290) else (some false))) else (some false)) else (some false)) else (some false)) else (some false)) = some r := by rw [if_pos rfl] at H; exact H
      clear H
      have H := H1
      clear H1
      by_cases c10 : t282.toList = t284.toList
      · rw [if_pos c10] at H
        have c10b0 : (t282.toList == t284.toList) = true := beq_iff_eq.mpr c10
        have c10b1 : (t282.toList != t284.toList) = false := bne_eq_false_iff_eq.mpr c10
        clear c10
        by_cases c11 : t283 = t285
        · rw [if_pos c11] at H
          have c11b0 : (t283 == t285) = true := beq_iff_eq.mpr c11
          have c11b1 : (t283 != t285) = false := bne_eq_false_iff_eq.mpr c11
          clear c11
          by_cases c12 : t286.toList = t288.toList
          · rw [if_pos c12] at H
            have c12b0 : (t286.toList == t288.toList) = true := beq_iff_eq.mpr c12
            have c12b1 : (t286.toList != t288.toList) = false := bne_eq_false_iff_eq.mpr c12
            clear c12
            by_cases c13 : ((t287 == 0) == t289) = true
            · rw [if_pos c13] at H
              have c13b0 : ((t287 == 0) == t289) = true := c13
              (try (have c13b1 : decide ((t287 == 0) = t289) = true := by simpa using c13))
              (try (have c13b2 : ((t287 == 0) == t289) = true := by simpa using c13))
              clear c13
              by_cases c14 : t289 = true
              · subst c14
                have H1 : (some t290) = some r := by rw [if_pos rfl] at H; exact H
                clear H
                have H := H1
                clear H1
                obtain rfl := Option.some.inj H
                go_enter Tryd.func4, Tryd.ntmps4
                go_wp2_with (first | ((with_reducible refine gate_callee (f := 10) rfl ?_); refine goesL_ (some 14) rfl rfl Tryd.func10 (by kernel_rfl) rfl #[] rfl am ?_; (with_reducible refine (carillonlaw01_examples.calls  true _ tbk A2.out).mono ?_); rintro e w15 ⟨rfl, hb⟩; refine ⟨_, rfl, ?_⟩; have n0_ := Aside0.mk (below_step bw hb); clear HB; have HB := n0_; clear n0_; (try clear hb); (try clear hb2); (try clear hk); (try clear hi)) | ((with_reducible refine gate_builtin (b := .append) (xs := #[.const (.slice none 0 0), .tmp 15]) rfl ?_); at_builtin; refine Kd.R_append_rows k32 (w0 := w) w.heap.size rfl (.const (.slice none 0 0)) (.tmp 15) 23 32 (.agg #[(.int .i64 0), (.int .u64 0), (.string ⟨#[]⟩)]) 32 rfl Tryd.underlying23 info32 rfl (by decide) (by omega) (.slice none 0 0) ([] : List (S32)) l0 _ _ _ (fun _ => True) (fun _ => False) rfl rfl ?aO ?aR (fun _ _ h => h) (fun _ h => h.elim) ?aF ?aB ?aS ?aL ?_; (case aR => repeat (first | exact (Kd.C_below HR0.out HB.out) | (with_reducible refine Kd.C_alloc ?_ _) | (with_reducible refine Kd.C_drewN ?_ _) | (with_reducible refine Kd.C_drew ?_))); (case aB => exact bw); (case aF => exact (fun _ _ => trivial)); (case aO => exact ((Kd.R_nil _ _ _ _ (fun _ => True)))); (case aS => exact (below_size bw)); (case aL => have := LMc3.out; omega); intro v280 w16 ho hb hg hat; rw [← Ny279.out] at ho; have n0_ := Aside0.mk (hb); have n1_ := Aside0.mk (ho); clear HB; have HB := n0_; have HO281 := n1_; clear n0_ n1_; clear ho hb hg hat; obtain ⟨Ao17, co17, eo17⟩ := Kd.R_slice HO281.out; subst eo17) | ((with_reducible refine gate_callee (f := 14) rfl ?_); refine goesL_ (some 19) rfl rfl Tryd.func14 (by kernel_rfl) rfl #[.slice Ao17 y279.length co17] rfl am ?_; (with_reducible refine (codec_Encode.calls k _ _ y279 t282 t283 _ ?side1 ?side2 tbk A4.out).mono ?_); (case side1 => repeat (first | exact (Kd.R_reads' HO281.out).2.2 | (with_reducible refine Kd.C_alloc ?_ _) | (with_reducible refine Kd.C_drewN ?_ _) | (with_reducible refine Kd.C_drew ?_))); (case side2 => exact (Kd.R_reads' HO281.out).2.1); rintro e w18 ⟨rfl, hb⟩; refine ⟨_, rfl, ?_⟩; have n0_ := Aside0.mk (Kd.R_below (by (with_reducible repeat (first | apply Kd.R_alloc | apply Kd.R_drewN | apply Kd.R_drew)); exact HO281.out) hb); have n1_ := Aside0.mk (below_step bw hb); clear HO281; clear HB; have HO281 := n0_; have HB := n1_; clear n0_ n1_; (try clear hb); (try clear hb2); (try clear hk); (try clear hi)) | ((with_reducible refine gate_callee (f := 15) rfl ?_); refine goesL_ (some 24) rfl rfl Tryd.func15 (by kernel_rfl) rfl #[.slice A0 l0.length c0] rfl am ?_; (with_reducible refine (carillonref01_Encode.calls k _ _ l0 t284 t285 _ ?side1 ?side2 A5.out).mono ?_); (case side1 => repeat (first | exact (Kd.C_below HR0.out HB.out) | (with_reducible refine Kd.C_alloc ?_ _) | (with_reducible refine Kd.C_drewN ?_ _) | (with_reducible refine Kd.C_drew ?_))); (case side2 => exact HC0.out); rintro e w19 ⟨rfl, hb⟩; refine ⟨_, rfl, ?_⟩; have n0_ := Aside0.mk (Kd.R_below (by (with_reducible repeat (first | apply Kd.R_alloc | apply Kd.R_drewN | apply Kd.R_drew)); exact HO281.out) hb); have n1_ := Aside0.mk (below_step bw hb); clear HO281; clear HB; have HO281 := n0_; have HB := n1_; clear n0_ n1_; (try clear hb); (try clear hb2); (try clear hk); (try clear hi)) | ((with_reducible refine gate_callee (f := 16) rfl ?_); refine goesL_ (some 29) rfl rfl Tryd.func16 (by kernel_rfl) rfl #[.slice Ao17 y279.length co17] rfl am ?_; (with_reducible refine (codec_Shape.calls _ _ y279 t286 t287 _ ?side1 ?side2 A6.out).mono ?_); (case side1 => repeat (first | exact (Kd.R_reads' HO281.out).2.2 | (with_reducible refine Kd.C_alloc ?_ _) | (with_reducible refine Kd.C_drewN ?_ _) | (with_reducible refine Kd.C_drew ?_))); (case side2 => exact (Kd.R_reads' HO281.out).2.1); rintro e w20 ⟨rfl, hb⟩; refine ⟨_, rfl, ?_⟩; have n0_ := Aside0.mk (Kd.R_below (by (with_reducible repeat (first | apply Kd.R_alloc | apply Kd.R_drewN | apply Kd.R_drew)); exact HO281.out) hb); have n1_ := Aside0.mk (below_step bw hb); clear HO281; clear HB; have HO281 := n0_; have HB := n1_; clear n0_ n1_; (try clear hb); (try clear hb2); (try clear hk); (try clear hi)) | ((with_reducible refine gate_callee (f := 17) rfl ?_); refine goesL_ (some 34) rfl rfl Tryd.func17 (by kernel_rfl) rfl #[.slice A0 l0.length c0] rfl am ?_; (with_reducible refine (carillonref01_Shape.calls k _ _ l0 t288 true _ ?side1 ?side2 A7.out).mono ?_); (case side1 => repeat (first | exact (Kd.C_below HR0.out HB.out) | (with_reducible refine Kd.C_alloc ?_ _) | (with_reducible refine Kd.C_drewN ?_ _) | (with_reducible refine Kd.C_drew ?_))); (case side2 => exact HC0.out); rintro e w' ⟨rfl, ⟨nd, rfl⟩⟩; refine ⟨_, rfl, ?_⟩) | ((with_reducible refine gate_callee (f := 13) rfl ?_); refine goesL_ (some 39) rfl rfl Tryd.func13 (by kernel_rfl) rfl #[.slice Ao17 y279.length co17, .slice A0 l0.length c0] rfl am ?_; (with_reducible refine (carillonlaw01_same.calls k _ _ y279 _ _ l0 t290 _ ?side1 ?side2 ?side3 ?side4 A8.out).mono ?_); (case side1 => repeat (first | exact (Kd.R_reads' HO281.out).2.2 | (with_reducible refine Kd.C_alloc ?_ _) | (with_reducible refine Kd.C_drewN ?_ _) | (with_reducible refine Kd.C_drew ?_))); (case side2 => exact (Kd.R_reads' HO281.out).2.1); (case side3 => repeat (first | exact (Kd.C_below HR0.out bw) | (with_reducible refine Kd.C_alloc ?_ _) | (with_reducible refine Kd.C_drewN ?_ _) | (with_reducible refine Kd.C_drew ?_))); (case side4 => exact HC0.out); rintro e w' ⟨rfl, ⟨nd, rfl⟩⟩; refine ⟨_, rfl, ?_⟩))
                go_ret
                exact ⟨er, bw⟩
              · replace c14 := Bool.eq_false_iff.mpr c14
                subst c14
                have H1 : (if t287 = 1 then (some t290) else (some false)) = some r := by rw [if_neg (show ¬ (false = true) by decide)] at H; exact H
                clear H
                have H := H1
                clear H1
                by_cases c21 : t287 = 1
                · rw [if_pos c21] at H
                  have c21b0 : (t287 == 1) = true := beq_iff_eq.mpr c21
                  have c21b1 : (t287 != 1) = false := bne_eq_false_iff_eq.mpr c21
                  clear c21
                  obtain rfl := Option.some.inj H
                  go_enter Tryd.func4, Tryd.ntmps4
                  go_wp2_with (first | ((with_reducible refine gate_callee (f := 10) rfl ?_); refine goesL_ (some 14) rfl rfl Tryd.func10 (by kernel_rfl) rfl #[] rfl am ?_; (with_reducible refine (carillonlaw01_examples.calls  true _ tbk A2.out).mono ?_); rintro e w22 ⟨rfl, hb⟩; refine ⟨_, rfl, ?_⟩; have n0_ := Aside0.mk (below_step bw hb); clear HB; have HB := n0_; clear n0_; (try clear hb); (try clear hb2); (try clear hk); (try clear hi)) | ((with_reducible refine gate_builtin (b := .append) (xs := #[.const (.slice none 0 0), .tmp 15]) rfl ?_); at_builtin; refine Kd.R_append_rows k32 (w0 := w) w.heap.size rfl (.const (.slice none 0 0)) (.tmp 15) 23 32 (.agg #[(.int .i64 0), (.int .u64 0), (.string ⟨#[]⟩)]) 32 rfl Tryd.underlying23 info32 rfl (by decide) (by omega) (.slice none 0 0) ([] : List (S32)) l0 _ _ _ (fun _ => True) (fun _ => False) rfl rfl ?aO ?aR (fun _ _ h => h) (fun _ h => h.elim) ?aF ?aB ?aS ?aL ?_; (case aR => repeat (first | exact (Kd.C_below HR0.out HB.out) | (with_reducible refine Kd.C_alloc ?_ _) | (with_reducible refine Kd.C_drewN ?_ _) | (with_reducible refine Kd.C_drew ?_))); (case aB => exact bw); (case aF => exact (fun _ _ => trivial)); (case aO => exact ((Kd.R_nil _ _ _ _ (fun _ => True)))); (case aS => exact (below_size bw)); (case aL => have := LMc3.out; omega); intro v280 w23 ho hb hg hat; rw [← Ny279.out] at ho; have n0_ := Aside0.mk (hb); have n1_ := Aside0.mk (ho); clear HB; have HB := n0_; have HO281 := n1_; clear n0_ n1_; clear ho hb hg hat; obtain ⟨Ao24, co24, eo24⟩ := Kd.R_slice HO281.out; subst eo24) | ((with_reducible refine gate_callee (f := 14) rfl ?_); refine goesL_ (some 19) rfl rfl Tryd.func14 (by kernel_rfl) rfl #[.slice Ao24 y279.length co24] rfl am ?_; (with_reducible refine (codec_Encode.calls k _ _ y279 t282 t283 _ ?side1 ?side2 tbk A4.out).mono ?_); (case side1 => repeat (first | exact (Kd.R_reads' HO281.out).2.2 | (with_reducible refine Kd.C_alloc ?_ _) | (with_reducible refine Kd.C_drewN ?_ _) | (with_reducible refine Kd.C_drew ?_))); (case side2 => exact (Kd.R_reads' HO281.out).2.1); rintro e w25 ⟨rfl, hb⟩; refine ⟨_, rfl, ?_⟩; have n0_ := Aside0.mk (Kd.R_below (by (with_reducible repeat (first | apply Kd.R_alloc | apply Kd.R_drewN | apply Kd.R_drew)); exact HO281.out) hb); have n1_ := Aside0.mk (below_step bw hb); clear HO281; clear HB; have HO281 := n0_; have HB := n1_; clear n0_ n1_; (try clear hb); (try clear hb2); (try clear hk); (try clear hi)) | ((with_reducible refine gate_callee (f := 15) rfl ?_); refine goesL_ (some 24) rfl rfl Tryd.func15 (by kernel_rfl) rfl #[.slice A0 l0.length c0] rfl am ?_; (with_reducible refine (carillonref01_Encode.calls k _ _ l0 t284 t285 _ ?side1 ?side2 A5.out).mono ?_); (case side1 => repeat (first | exact (Kd.C_below HR0.out HB.out) | (with_reducible refine Kd.C_alloc ?_ _) | (with_reducible refine Kd.C_drewN ?_ _) | (with_reducible refine Kd.C_drew ?_))); (case side2 => exact HC0.out); rintro e w26 ⟨rfl, hb⟩; refine ⟨_, rfl, ?_⟩; have n0_ := Aside0.mk (Kd.R_below (by (with_reducible repeat (first | apply Kd.R_alloc | apply Kd.R_drewN | apply Kd.R_drew)); exact HO281.out) hb); have n1_ := Aside0.mk (below_step bw hb); clear HO281; clear HB; have HO281 := n0_; have HB := n1_; clear n0_ n1_; (try clear hb); (try clear hb2); (try clear hk); (try clear hi)) | ((with_reducible refine gate_callee (f := 16) rfl ?_); refine goesL_ (some 29) rfl rfl Tryd.func16 (by kernel_rfl) rfl #[.slice Ao24 y279.length co24] rfl am ?_; (with_reducible refine (codec_Shape.calls _ _ y279 t286 t287 _ ?side1 ?side2 A6.out).mono ?_); (case side1 => repeat (first | exact (Kd.R_reads' HO281.out).2.2 | (with_reducible refine Kd.C_alloc ?_ _) | (with_reducible refine Kd.C_drewN ?_ _) | (with_reducible refine Kd.C_drew ?_))); (case side2 => exact (Kd.R_reads' HO281.out).2.1); rintro e w27 ⟨rfl, hb⟩; refine ⟨_, rfl, ?_⟩; have n0_ := Aside0.mk (Kd.R_below (by (with_reducible repeat (first | apply Kd.R_alloc | apply Kd.R_drewN | apply Kd.R_drew)); exact HO281.out) hb); have n1_ := Aside0.mk (below_step bw hb); clear HO281; clear HB; have HO281 := n0_; have HB := n1_; clear n0_ n1_; (try clear hb); (try clear hb2); (try clear hk); (try clear hi)) | ((with_reducible refine gate_callee (f := 17) rfl ?_); refine goesL_ (some 34) rfl rfl Tryd.func17 (by kernel_rfl) rfl #[.slice A0 l0.length c0] rfl am ?_; (with_reducible refine (carillonref01_Shape.calls k _ _ l0 t288 false _ ?side1 ?side2 A7.out).mono ?_); (case side1 => repeat (first | exact (Kd.C_below HR0.out HB.out) | (with_reducible refine Kd.C_alloc ?_ _) | (with_reducible refine Kd.C_drewN ?_ _) | (with_reducible refine Kd.C_drew ?_))); (case side2 => exact HC0.out); rintro e w' ⟨rfl, ⟨nd, rfl⟩⟩; refine ⟨_, rfl, ?_⟩) | ((with_reducible refine gate_callee (f := 13) rfl ?_); refine goesL_ (some 39) rfl rfl Tryd.func13 (by kernel_rfl) rfl #[.slice Ao24 y279.length co24, .slice A0 l0.length c0] rfl am ?_; (with_reducible refine (carillonlaw01_same.calls k _ _ y279 _ _ l0 t290 _ ?side1 ?side2 ?side3 ?side4 A8.out).mono ?_); (case side1 => repeat (first | exact (Kd.R_reads' HO281.out).2.2 | (with_reducible refine Kd.C_alloc ?_ _) | (with_reducible refine Kd.C_drewN ?_ _) | (with_reducible refine Kd.C_drew ?_))); (case side2 => exact (Kd.R_reads' HO281.out).2.1); (case side3 => repeat (first | exact (Kd.C_below HR0.out bw) | (with_reducible refine Kd.C_alloc ?_ _) | (with_reducible refine Kd.C_drewN ?_ _) | (with_reducible refine Kd.C_drew ?_))); (case side4 => exact HC0.out); rintro e w' ⟨rfl, ⟨nd, rfl⟩⟩; refine ⟨_, rfl, ?_⟩))
                  go_ret
                  exact ⟨er, bw⟩
                · rw [if_neg c21] at H
                  have c21b0 : (t287 == 1) = false := beq_eq_false_iff_ne.mpr c21
                  have c21b1 : (t287 != 1) = true := bne_iff_ne.mpr c21
                  exact absurd ((Option.some.inj H).trans hr_.out) (by decide)
            · rw [if_neg c13] at H
              have c13b0 : ((t287 == 0) == t289) = false := by simpa using c13
              (try (have c13b1 : decide ((t287 == 0) = t289) = false := by simpa using c13))
              (try (have c13b2 : ((t287 == 0) == t289) = false := by simpa using c13))
              (try (have c13b3 : ¬ ((t287 == 0) = t289) := by simpa using c13))
              clear c13
              exact absurd ((Option.some.inj H).trans hr_.out) (by decide)
          · rw [if_neg c12] at H
            have c12b0 : (t286.toList == t288.toList) = false := beq_eq_false_iff_ne.mpr c12
            have c12b1 : (t286.toList != t288.toList) = true := bne_iff_ne.mpr c12
            exact absurd ((Option.some.inj H).trans hr_.out) (by decide)
        · rw [if_neg c11] at H
          have c11b0 : (t283 == t285) = false := beq_eq_false_iff_ne.mpr c11
          have c11b1 : (t283 != t285) = true := bne_iff_ne.mpr c11
          exact absurd ((Option.some.inj H).trans hr_.out) (by decide)
      · rw [if_neg c10] at H
        have c10b0 : (t282.toList == t284.toList) = false := beq_eq_false_iff_ne.mpr c10
        have c10b1 : (t282.toList != t284.toList) = true := bne_iff_ne.mpr c10
        exact absurd ((Option.some.inj H).trans hr_.out) (by decide)
    · replace c9 := Bool.eq_false_iff.mpr c9
      subst c9
      have H1 : (some false) = some r := by rw [if_neg (show ¬ (false = true) by decide)] at H; exact H
      clear H
      have H := H1
      clear H1
      exact absurd ((Option.some.inj H).trans hr_.out) (by decide)
  · rw [if_neg c3] at H
    exact absurd H (by simp)

/-! ### carillonlaw01_CodecBack: function 5 -/
def carillonlaw01_CodecBack.f (k : Nat) (l0 : List (S32)) : Option (Bool) := (carillonlaw01_examples.f).bind fun t291 => ((codec_Encode.f k l0).bind fun bt292 => ((codec_Shape.f l0).bind fun bt294 => (if bt292.2 = 0 then ((codec_Decode.f k bt294.1 bt292.1).bind fun bt296 => ((carillonlaw01_same.f k bt296.1 l0).bind fun t300 => (if t291 = true then (if bt294.2 = 0 then (if bt296.2 = 0 then (some t300) else (some false)) else (some false)) else (some false)))) else (if t291 = true then (some (bt292.1.toList == ([] : List UInt8))) else (some false)))))
theorem carillonlaw01_CodecBack.mono : ∀ a0 k, LeO (carillonlaw01_CodecBack.f k a0) (carillonlaw01_CodecBack.f (k + 1) a0) := by
  intro a0 k
  unfold carillonlaw01_CodecBack.f
  repeat' first
      | (with_reducible exact carillonlaw01_same.mono _ _ _)
      | (with_reducible exact codec_Decode.mono _ _ _)
      | (with_reducible exact codec_Encode.mono _ _)
      | (with_reducible exact LeO.refl _)
      | (with_reducible exact LeO.none _)
      | (with_reducible refine LeO.ite ?_ ?_)
      | (with_reducible refine LeO.bind ?_ (fun _ => ?_))
      | exact carillonlaw01_same.mono _ _ _
      | exact codec_Decode.mono _ _ _
      | exact codec_Encode.mono _ _
      | exact LeO.none _
      | refine LeO.ite ?_ ?_
      | refine LeO.bind ?_ (fun _ => ?_)
set_option maxHeartbeats 8000000 in
set_option maxRecDepth 100000 in
theorem carillonlaw01_CodecBack.calls (k : Nat) (A0 : Option Addr) (c0 : Nat) (l0 : List (S32)) (r : Bool) (w : World) (hr0 : Kd.C k32 w A0 l0.length l0) (hc0 : l0.length ≤ c0) (hr_ : Aside0 (r = true)) (HT_ : TabOk w) (h : carillonlaw01_CodecBack.f k l0 = some r) :
    Calls Tryd.prog 5 #[.slice A0 l0.length c0] w fun e w' => e = .returned (.bool r) ∧ Below w.heap.size w w' := by
  have HT := Aside0.mk HT_
  clear HT_
  have HR0 := Aside0.mk hr0
  have HC0 := Aside0.mk hc0
  clear hr0 hc0
  have HB := Aside0.mk (Below.refl w.heap.size w)
  have H : ((carillonlaw01_examples.f).bind fun t291 => ((codec_Encode.f k l0).bind fun bt292 => ((codec_Shape.f l0).bind fun bt294 => (if bt292.2 = 0 then ((codec_Decode.f k bt294.1 bt292.1).bind fun bt296 => ((carillonlaw01_same.f k bt296.1 l0).bind fun t300 => (if t291 = true then (if bt294.2 = 0 then (if bt296.2 = 0 then (some t300) else (some false)) else (some false)) else (some false)))) else (if t291 = true then (some (bt292.1.toList == ([] : List UInt8))) else (some false)))))) = some r := h
  clear h
  replace H := Option.bind_eq_some_iff.mp H
  obtain ⟨t291, A20, H⟩ := H
  replace H : ((codec_Encode.f k l0).bind fun bt292 => ((codec_Shape.f l0).bind fun bt294 => (if bt292.2 = 0 then ((codec_Decode.f k bt294.1 bt292.1).bind fun bt296 => ((carillonlaw01_same.f k bt296.1 l0).bind fun t300 => (if t291 = true then (if bt294.2 = 0 then (if bt296.2 = 0 then (some t300) else (some false)) else (some false)) else (some false)))) else (if t291 = true then (some (bt292.1.toList == ([] : List UInt8))) else (some false))))) = some r := H
  have A2 := Aside0.mk A20
  clear A20
  replace H := Option.bind_eq_some_iff.mp H
  obtain ⟨⟨t292, t293⟩, A30, H⟩ := H
  replace H : ((codec_Shape.f l0).bind fun bt294 => (if t293 = 0 then ((codec_Decode.f k bt294.1 t292).bind fun bt296 => ((carillonlaw01_same.f k bt296.1 l0).bind fun t300 => (if t291 = true then (if bt294.2 = 0 then (if bt296.2 = 0 then (some t300) else (some false)) else (some false)) else (some false)))) else (if t291 = true then (some (t292.toList == ([] : List UInt8))) else (some false)))) = some r := H
  have A3 := Aside0.mk A30
  clear A30
  replace H := Option.bind_eq_some_iff.mp H
  obtain ⟨⟨t294, t295⟩, A40, H⟩ := H
  replace H : (if t293 = 0 then ((codec_Decode.f k t294 t292).bind fun bt296 => ((carillonlaw01_same.f k bt296.1 l0).bind fun t300 => (if t291 = true then (if t295 = 0 then (if bt296.2 = 0 then (some t300) else (some false)) else (some false)) else (some false)))) else (if t291 = true then (some (t292.toList == ([] : List UInt8))) else (some false))) = some r := H
  have A4 := Aside0.mk A40
  clear A40
  by_cases c5 : t293 = 0
  · rw [if_pos c5] at H
    have c5b0 : (t293 == 0) = true := beq_iff_eq.mpr c5
    have c5b1 : (t293 != 0) = false := bne_eq_false_iff_eq.mpr c5
    clear c5
    replace H := Option.bind_eq_some_iff.mp H
    obtain ⟨⟨t296, t297⟩, A60, H⟩ := H
    replace H : ((carillonlaw01_same.f k t296 l0).bind fun t300 => (if t291 = true then (if t295 = 0 then (if t297 = 0 then (some t300) else (some false)) else (some false)) else (some false))) = some r := H
    have A6 := Aside0.mk A60
    clear A60
    replace H := Option.bind_eq_some_iff.mp H
    obtain ⟨t300, A70, H⟩ := H
    replace H : (if t291 = true then (if t295 = 0 then (if t297 = 0 then (some t300) else (some false)) else (some false)) else (some false)) = some r := H
    have A7 := Aside0.mk A70
    clear A70
    by_cases c8 : t291 = true
    · subst c8
      have H1 : (if t295 = 0 then (if t297 = 0 then (some t300) else (some false)) else (some false)) = some r := by rw [if_pos rfl] at H; exact H
      clear H
      have H := H1
      clear H1
      by_cases c9 : t295 = 0
      · rw [if_pos c9] at H
        have c9b0 : (t295 == 0) = true := beq_iff_eq.mpr c9
        have c9b1 : (t295 != 0) = false := bne_eq_false_iff_eq.mpr c9
        clear c9
        by_cases c10 : t297 = 0
        · rw [if_pos c10] at H
          have c10b0 : (t297 == 0) = true := beq_iff_eq.mpr c10
          have c10b1 : (t297 != 0) = false := bne_eq_false_iff_eq.mpr c10
          clear c10
          obtain rfl := Option.some.inj H
          go_enter Tryd.func5, Tryd.ntmps5
          go_wp2_with (first | ((with_reducible refine gate_callee (f := 10) rfl ?_); refine goesL_ (some 11) rfl rfl Tryd.func10 (by kernel_rfl) rfl #[] rfl am ?_; (with_reducible refine (carillonlaw01_examples.calls  true _ tbk A2.out).mono ?_); rintro e w11 ⟨rfl, hb⟩; refine ⟨_, rfl, ?_⟩; have n0_ := Aside0.mk (below_step bw hb); clear HB; have HB := n0_; clear n0_; (try clear hb); (try clear hb2); (try clear hk); (try clear hi)) | ((with_reducible refine gate_callee (f := 14) rfl ?_); refine goesL_ (some 14) rfl rfl Tryd.func14 (by kernel_rfl) rfl #[.slice A0 l0.length c0] rfl am ?_; (with_reducible refine (codec_Encode.calls k _ _ l0 t292 t293 _ ?side1 ?side2 tbk A3.out).mono ?_); (case side1 => repeat (first | exact (Kd.C_below HR0.out HB.out) | (with_reducible refine Kd.C_alloc ?_ _) | (with_reducible refine Kd.C_drewN ?_ _) | (with_reducible refine Kd.C_drew ?_))); (case side2 => exact HC0.out); rintro e w12 ⟨rfl, hb⟩; refine ⟨_, rfl, ?_⟩; have n0_ := Aside0.mk (below_step bw hb); clear HB; have HB := n0_; clear n0_; (try clear hb); (try clear hb2); (try clear hk); (try clear hi)) | ((with_reducible refine gate_callee (f := 16) rfl ?_); refine goesL_ (some 19) rfl rfl Tryd.func16 (by kernel_rfl) rfl #[.slice A0 l0.length c0] rfl am ?_; (with_reducible refine (codec_Shape.calls _ _ l0 t294 t295 _ ?side1 ?side2 A4.out).mono ?_); (case side1 => repeat (first | exact (Kd.C_below HR0.out HB.out) | (with_reducible refine Kd.C_alloc ?_ _) | (with_reducible refine Kd.C_drewN ?_ _) | (with_reducible refine Kd.C_drew ?_))); (case side2 => exact HC0.out); rintro e w13 ⟨rfl, hb⟩; refine ⟨_, rfl, ?_⟩; have n0_ := Aside0.mk (below_step bw hb); clear HB; have HB := n0_; clear n0_; (try clear hb); (try clear hb2); (try clear hk); (try clear hi)) | ((with_reducible refine gate_callee (f := 12) rfl ?_); refine goesL_ (some 32) rfl rfl Tryd.func12 (by kernel_rfl) rfl #[.string t294, .string t292] rfl am ?_; (with_reducible refine (codec_Decode.calls k t294 t292 t296 t297 _ tbk A6.out).mono ?_); rintro e w14 ⟨v298, rfl, ho0, hb⟩; refine ⟨_, rfl, ?_⟩; have n0_ := Aside0.mk (Kd.R_lower ho0 (below_size bw)); have n1_ := Aside0.mk (below_step bw hb); clear HB; have HO299 := n0_; have HB := n1_; clear n0_ n1_; (try clear hb); (try clear hb2); (try clear hk); (try clear hi); (try clear ho0); obtain ⟨Ao15, co15, eo15⟩ := Kd.R_slice HO299.out; subst eo15) | ((with_reducible refine gate_callee (f := 13) rfl ?_); refine goesL_ (some 37) rfl rfl Tryd.func13 (by kernel_rfl) rfl #[.slice Ao15 t296.length co15, .slice A0 l0.length c0] rfl am ?_; (with_reducible refine (carillonlaw01_same.calls k _ _ t296 _ _ l0 t300 _ ?side1 ?side2 ?side3 ?side4 A7.out).mono ?_); (case side1 => repeat (first | exact (Kd.R_reads' HO299.out).2.2 | (with_reducible refine Kd.C_alloc ?_ _) | (with_reducible refine Kd.C_drewN ?_ _) | (with_reducible refine Kd.C_drew ?_))); (case side2 => exact (Kd.R_reads' HO299.out).2.1); (case side3 => repeat (first | exact (Kd.C_below HR0.out HB.out) | (with_reducible refine Kd.C_alloc ?_ _) | (with_reducible refine Kd.C_drewN ?_ _) | (with_reducible refine Kd.C_drew ?_))); (case side4 => exact HC0.out); rintro e w' ⟨rfl, ⟨nd, rfl⟩⟩; refine ⟨_, rfl, ?_⟩))
          go_ret
          exact ⟨er, bw⟩
        · rw [if_neg c10] at H
          have c10b0 : (t297 == 0) = false := beq_eq_false_iff_ne.mpr c10
          have c10b1 : (t297 != 0) = true := bne_iff_ne.mpr c10
          exact absurd ((Option.some.inj H).trans hr_.out) (by decide)
      · rw [if_neg c9] at H
        have c9b0 : (t295 == 0) = false := beq_eq_false_iff_ne.mpr c9
        have c9b1 : (t295 != 0) = true := bne_iff_ne.mpr c9
        exact absurd ((Option.some.inj H).trans hr_.out) (by decide)
    · replace c8 := Bool.eq_false_iff.mpr c8
      subst c8
      have H1 : (some false) = some r := by rw [if_neg (show ¬ (false = true) by decide)] at H; exact H
      clear H
      have H := H1
      clear H1
      exact absurd ((Option.some.inj H).trans hr_.out) (by decide)
  · rw [if_neg c5] at H
    have c5b0 : (t293 == 0) = false := beq_eq_false_iff_ne.mpr c5
    have c5b1 : (t293 != 0) = true := bne_iff_ne.mpr c5
    by_cases c16 : t291 = true
    · subst c16
      have H1 : (some (t292.toList == ([] : List UInt8))) = some r := by rw [if_pos rfl] at H; exact H
      clear H
      have H := H1
      clear H1
      obtain rfl := Option.some.inj H
      go_enter Tryd.func5, Tryd.ntmps5
      go_wp2_with (first | ((with_reducible refine gate_callee (f := 10) rfl ?_); refine goesL_ (some 11) rfl rfl Tryd.func10 (by kernel_rfl) rfl #[] rfl am ?_; (with_reducible refine (carillonlaw01_examples.calls  true _ tbk A2.out).mono ?_); rintro e w17 ⟨rfl, hb⟩; refine ⟨_, rfl, ?_⟩; have n0_ := Aside0.mk (below_step bw hb); clear HB; have HB := n0_; clear n0_; (try clear hb); (try clear hb2); (try clear hk); (try clear hi)) | ((with_reducible refine gate_callee (f := 14) rfl ?_); refine goesL_ (some 14) rfl rfl Tryd.func14 (by kernel_rfl) rfl #[.slice A0 l0.length c0] rfl am ?_; (with_reducible refine (codec_Encode.calls k _ _ l0 t292 t293 _ ?side1 ?side2 tbk A3.out).mono ?_); (case side1 => repeat (first | exact (Kd.C_below HR0.out HB.out) | (with_reducible refine Kd.C_alloc ?_ _) | (with_reducible refine Kd.C_drewN ?_ _) | (with_reducible refine Kd.C_drew ?_))); (case side2 => exact HC0.out); rintro e w18 ⟨rfl, hb⟩; refine ⟨_, rfl, ?_⟩; have n0_ := Aside0.mk (below_step bw hb); clear HB; have HB := n0_; clear n0_; (try clear hb); (try clear hb2); (try clear hk); (try clear hi)) | ((with_reducible refine gate_callee (f := 16) rfl ?_); refine goesL_ (some 19) rfl rfl Tryd.func16 (by kernel_rfl) rfl #[.slice A0 l0.length c0] rfl am ?_; (with_reducible refine (codec_Shape.calls _ _ l0 t294 t295 _ ?side1 ?side2 A4.out).mono ?_); (case side1 => repeat (first | exact (Kd.C_below HR0.out HB.out) | (with_reducible refine Kd.C_alloc ?_ _) | (with_reducible refine Kd.C_drewN ?_ _) | (with_reducible refine Kd.C_drew ?_))); (case side2 => exact HC0.out); rintro e w19 ⟨rfl, hb⟩; refine ⟨_, rfl, ?_⟩; have n0_ := Aside0.mk (below_step bw hb); clear HB; have HB := n0_; clear n0_; (try clear hb); (try clear hb2); (try clear hk); (try clear hi)))
      go_ret
      exact ⟨er, bw⟩
    · replace c16 := Bool.eq_false_iff.mpr c16
      subst c16
      have H1 : (some false) = some r := by rw [if_neg (show ¬ (false = true) by decide)] at H; exact H
      clear H
      have H := H1
      clear H1
      exact absurd ((Option.some.inj H).trans hr_.out) (by decide)

/-! ### carillonlaw01_CodecAgain: function 6 -/
def carillonlaw01_CodecAgain.f (k : Nat) (a0 : ByteArray) (a1 : ByteArray) : Option (Bool) := (carillonlaw01_examples.f).bind fun t301 => ((codec_Decode.f k a0 a1).bind fun bt302 => (if bt302.2 = 0 then ((codec_Encode.f k bt302.1).bind fun bt306 => ((codec_Shape.f bt302.1).bind fun bt308 => ((codec_Decode.f k bt308.1 a1).bind fun bt310 => ((carillonlaw01_same.f k bt310.1 bt302.1).bind fun t314 => (if t301 = true then (if bt306.2 = 0 then (if bt306.1.toList = a1.toList then (if bt308.2 = 0 then (if bt310.2 = 0 then (some t314) else (some false)) else (some false)) else (some false)) else (some false)) else (some false)))))) else (if t301 = true then (some ((bt302.1.length : Int) == 0)) else (some false))))
theorem carillonlaw01_CodecAgain.mono : ∀ a0 a1 k, LeO (carillonlaw01_CodecAgain.f k a0 a1) (carillonlaw01_CodecAgain.f (k + 1) a0 a1) := by
  intro a0 a1 k
  unfold carillonlaw01_CodecAgain.f
  repeat' first
      | (with_reducible exact carillonlaw01_same.mono _ _ _)
      | (with_reducible exact codec_Decode.mono _ _ _)
      | (with_reducible exact codec_Encode.mono _ _)
      | (with_reducible exact LeO.refl _)
      | (with_reducible exact LeO.none _)
      | (with_reducible refine LeO.ite ?_ ?_)
      | (with_reducible refine LeO.bind ?_ (fun _ => ?_))
      | exact carillonlaw01_same.mono _ _ _
      | exact codec_Decode.mono _ _ _
      | exact codec_Encode.mono _ _
      | exact LeO.none _
      | refine LeO.ite ?_ ?_
      | refine LeO.bind ?_ (fun _ => ?_)
set_option maxHeartbeats 8000000 in
set_option maxRecDepth 100000 in
theorem carillonlaw01_CodecAgain.calls (k : Nat) (a0 : ByteArray) (a1 : ByteArray) (r : Bool) (w : World) (hr_ : Aside0 (r = true)) (HT_ : TabOk w) (h : carillonlaw01_CodecAgain.f k a0 a1 = some r) :
    Calls Tryd.prog 6 #[.string a0, .string a1] w fun e w' => e = .returned (.bool r) ∧ Below w.heap.size w w' := by
  have HT := Aside0.mk HT_
  clear HT_
  have HB := Aside0.mk (Below.refl w.heap.size w)
  have H : ((carillonlaw01_examples.f).bind fun t301 => ((codec_Decode.f k a0 a1).bind fun bt302 => (if bt302.2 = 0 then ((codec_Encode.f k bt302.1).bind fun bt306 => ((codec_Shape.f bt302.1).bind fun bt308 => ((codec_Decode.f k bt308.1 a1).bind fun bt310 => ((carillonlaw01_same.f k bt310.1 bt302.1).bind fun t314 => (if t301 = true then (if bt306.2 = 0 then (if bt306.1.toList = a1.toList then (if bt308.2 = 0 then (if bt310.2 = 0 then (some t314) else (some false)) else (some false)) else (some false)) else (some false)) else (some false)))))) else (if t301 = true then (some ((bt302.1.length : Int) == 0)) else (some false))))) = some r := h
  clear h
  replace H := Option.bind_eq_some_iff.mp H
  obtain ⟨t301, A30, H⟩ := H
  replace H : ((codec_Decode.f k a0 a1).bind fun bt302 => (if bt302.2 = 0 then ((codec_Encode.f k bt302.1).bind fun bt306 => ((codec_Shape.f bt302.1).bind fun bt308 => ((codec_Decode.f k bt308.1 a1).bind fun bt310 => ((carillonlaw01_same.f k bt310.1 bt302.1).bind fun t314 => (if t301 = true then (if bt306.2 = 0 then (if bt306.1.toList = a1.toList then (if bt308.2 = 0 then (if bt310.2 = 0 then (some t314) else (some false)) else (some false)) else (some false)) else (some false)) else (some false)))))) else (if t301 = true then (some ((bt302.1.length : Int) == 0)) else (some false)))) = some r := H
  have A3 := Aside0.mk A30
  clear A30
  replace H := Option.bind_eq_some_iff.mp H
  obtain ⟨⟨t302, t303⟩, A40, H⟩ := H
  replace H : (if t303 = 0 then ((codec_Encode.f k t302).bind fun bt306 => ((codec_Shape.f t302).bind fun bt308 => ((codec_Decode.f k bt308.1 a1).bind fun bt310 => ((carillonlaw01_same.f k bt310.1 t302).bind fun t314 => (if t301 = true then (if bt306.2 = 0 then (if bt306.1.toList = a1.toList then (if bt308.2 = 0 then (if bt310.2 = 0 then (some t314) else (some false)) else (some false)) else (some false)) else (some false)) else (some false)))))) else (if t301 = true then (some ((t302.length : Int) == 0)) else (some false))) = some r := H
  have A4 := Aside0.mk A40
  clear A40
  by_cases c5 : t303 = 0
  · rw [if_pos c5] at H
    have c5b0 : (t303 == 0) = true := beq_iff_eq.mpr c5
    have c5b1 : (t303 != 0) = false := bne_eq_false_iff_eq.mpr c5
    clear c5
    replace H := Option.bind_eq_some_iff.mp H
    obtain ⟨⟨t306, t307⟩, A60, H⟩ := H
    replace H : ((codec_Shape.f t302).bind fun bt308 => ((codec_Decode.f k bt308.1 a1).bind fun bt310 => ((carillonlaw01_same.f k bt310.1 t302).bind fun t314 => (if t301 = true then (if t307 = 0 then (if t306.toList = a1.toList then (if bt308.2 = 0 then (if bt310.2 = 0 then (some t314) else (some false)) else (some false)) else (some false)) else (some false)) else (some false))))) = some r := H
    have A6 := Aside0.mk A60
    clear A60
    replace H := Option.bind_eq_some_iff.mp H
    obtain ⟨⟨t308, t309⟩, A70, H⟩ := H
    replace H : ((codec_Decode.f k t308 a1).bind fun bt310 => ((carillonlaw01_same.f k bt310.1 t302).bind fun t314 => (if t301 = true then (if t307 = 0 then (if t306.toList = a1.toList then (if t309 = 0 then (if bt310.2 = 0 then (some t314) else (some false)) else (some false)) else (some false)) else (some false)) else (some false)))) = some r := H
    have A7 := Aside0.mk A70
    clear A70
    replace H := Option.bind_eq_some_iff.mp H
    obtain ⟨⟨t310, t311⟩, A80, H⟩ := H
    replace H : ((carillonlaw01_same.f k t310 t302).bind fun t314 => (if t301 = true then (if t307 = 0 then (if t306.toList = a1.toList then (if t309 = 0 then (if t311 = 0 then (some t314) else (some false)) else (some false)) else (some false)) else (some false)) else (some false))) = some r := H
    have A8 := Aside0.mk A80
    clear A80
    replace H := Option.bind_eq_some_iff.mp H
    obtain ⟨t314, A90, H⟩ := H
    replace H : (if t301 = true then (if t307 = 0 then (if t306.toList = a1.toList then (if t309 = 0 then (if t311 = 0 then (some t314) else (some false)) else (some false)) else (some false)) else (some false)) else (some false)) = some r := H
    have A9 := Aside0.mk A90
    clear A90
    by_cases c10 : t301 = true
    · subst c10
      have H1 : (if t307 = 0 then (if t306.toList = a1.toList then (if t309 = 0 then (if t311 = 0 then (some t314) else (some false)) else (some false)) else (some false)) else (some false)) = some r := by rw [if_pos rfl] at H; exact H
      clear H
      have H := H1
      clear H1
      by_cases c11 : t307 = 0
      · rw [if_pos c11] at H
        have c11b0 : (t307 == 0) = true := beq_iff_eq.mpr c11
        have c11b1 : (t307 != 0) = false := bne_eq_false_iff_eq.mpr c11
        clear c11
        by_cases c12 : t306.toList = a1.toList
        · rw [if_pos c12] at H
          have c12b0 : (t306.toList == a1.toList) = true := beq_iff_eq.mpr c12
          have c12b1 : (t306.toList != a1.toList) = false := bne_eq_false_iff_eq.mpr c12
          clear c12
          by_cases c13 : t309 = 0
          · rw [if_pos c13] at H
            have c13b0 : (t309 == 0) = true := beq_iff_eq.mpr c13
            have c13b1 : (t309 != 0) = false := bne_eq_false_iff_eq.mpr c13
            clear c13
            by_cases c14 : t311 = 0
            · rw [if_pos c14] at H
              have c14b0 : (t311 == 0) = true := beq_iff_eq.mpr c14
              have c14b1 : (t311 != 0) = false := bne_eq_false_iff_eq.mpr c14
              clear c14
              obtain rfl := Option.some.inj H
              go_enter Tryd.func6, Tryd.ntmps6
              go_wp2_with (first | ((with_reducible refine gate_callee (f := 10) rfl ?_); refine goesL_ (some 15) rfl rfl Tryd.func10 (by kernel_rfl) rfl #[] rfl am ?_; (with_reducible refine (carillonlaw01_examples.calls  true _ tbk A3.out).mono ?_); rintro e w15 ⟨rfl, hb⟩; refine ⟨_, rfl, ?_⟩; have n0_ := Aside0.mk (below_step bw hb); clear HB; have HB := n0_; clear n0_; (try clear hb); (try clear hb2); (try clear hk); (try clear hi)) | ((with_reducible refine gate_callee (f := 12) rfl ?_); refine goesL_ (some 19) rfl rfl Tryd.func12 (by kernel_rfl) rfl #[.string a0, .string a1] rfl am ?_; (with_reducible refine (codec_Decode.calls k a0 a1 t302 t303 _ tbk A4.out).mono ?_); rintro e w16 ⟨v304, rfl, ho0, hb⟩; refine ⟨_, rfl, ?_⟩; have n0_ := Aside0.mk (Kd.R_lower ho0 (below_size bw)); have n1_ := Aside0.mk (below_step bw hb); clear HB; have HO305 := n0_; have HB := n1_; clear n0_ n1_; (try clear hb); (try clear hb2); (try clear hk); (try clear hi); (try clear ho0); obtain ⟨Ao17, co17, eo17⟩ := Kd.R_slice HO305.out; subst eo17) | ((with_reducible refine gate_callee (f := 14) rfl ?_); refine goesL_ (some 32) rfl rfl Tryd.func14 (by kernel_rfl) rfl #[.slice Ao17 t302.length co17] rfl am ?_; (with_reducible refine (codec_Encode.calls k _ _ t302 t306 t307 _ ?side1 ?side2 tbk A6.out).mono ?_); (case side1 => repeat (first | exact (Kd.R_reads' HO305.out).2.2 | (with_reducible refine Kd.C_alloc ?_ _) | (with_reducible refine Kd.C_drewN ?_ _) | (with_reducible refine Kd.C_drew ?_))); (case side2 => exact (Kd.R_reads' HO305.out).2.1); rintro e w18 ⟨rfl, hb⟩; refine ⟨_, rfl, ?_⟩; have n0_ := Aside0.mk (Kd.R_below (by (with_reducible repeat (first | apply Kd.R_alloc | apply Kd.R_drewN | apply Kd.R_drew)); exact HO305.out) hb); have n1_ := Aside0.mk (below_step bw hb); clear HO305; clear HB; have HO305 := n0_; have HB := n1_; clear n0_ n1_; (try clear hb); (try clear hb2); (try clear hk); (try clear hi)) | ((with_reducible refine gate_callee (f := 16) rfl ?_); refine goesL_ (some 37) rfl rfl Tryd.func16 (by kernel_rfl) rfl #[.slice Ao17 t302.length co17] rfl am ?_; (with_reducible refine (codec_Shape.calls _ _ t302 t308 t309 _ ?side1 ?side2 A7.out).mono ?_); (case side1 => repeat (first | exact (Kd.R_reads' HO305.out).2.2 | (with_reducible refine Kd.C_alloc ?_ _) | (with_reducible refine Kd.C_drewN ?_ _) | (with_reducible refine Kd.C_drew ?_))); (case side2 => exact (Kd.R_reads' HO305.out).2.1); rintro e w19 ⟨rfl, hb⟩; refine ⟨_, rfl, ?_⟩; have n0_ := Aside0.mk (Kd.R_below (by (with_reducible repeat (first | apply Kd.R_alloc | apply Kd.R_drewN | apply Kd.R_drew)); exact HO305.out) hb); have n1_ := Aside0.mk (below_step bw hb); clear HO305; clear HB; have HO305 := n0_; have HB := n1_; clear n0_ n1_; (try clear hb); (try clear hb2); (try clear hk); (try clear hi)) | ((with_reducible refine gate_callee (f := 12) rfl ?_); refine goesL_ (some 43) rfl rfl Tryd.func12 (by kernel_rfl) rfl #[.string t308, .string a1] rfl am ?_; (with_reducible refine (codec_Decode.calls k t308 a1 t310 t311 _ tbk A8.out).mono ?_); rintro e w20 ⟨v312, rfl, ho0, hb⟩; refine ⟨_, rfl, ?_⟩; have n0_ := Aside0.mk (Kd.R_elder' (by (with_reducible repeat (first | apply Kd.R_alloc | apply Kd.R_drewN | apply Kd.R_drew)); exact HO305.out) (Kd.R_base ho0) hb); have n1_ := Aside0.mk (Kd.R_lower (Kd.R_new' ho0 (Kd.R_lt (by (with_reducible repeat (first | apply Kd.R_alloc | apply Kd.R_drewN | apply Kd.R_drew)); exact HO305.out))) (below_size bw)); have n2_ := Aside0.mk (below_step bw hb); clear HO305; clear HB; have HO305 := n0_; have HO313 := n1_; have HB := n2_; clear n0_ n1_ n2_; (try clear hb); (try clear hb2); (try clear hk); (try clear hi); (try clear ho0); obtain ⟨Ao21, co21, eo21⟩ := Kd.R_slice HO313.out; subst eo21) | ((with_reducible refine gate_callee (f := 13) rfl ?_); refine goesL_ (some 48) rfl rfl Tryd.func13 (by kernel_rfl) rfl #[.slice Ao21 t310.length co21, .slice Ao17 t302.length co17] rfl am ?_; (with_reducible refine (carillonlaw01_same.calls k _ _ t310 _ _ t302 t314 _ ?side1 ?side2 ?side3 ?side4 A9.out).mono ?_); (case side1 => repeat (first | exact (Kd.R_reads' HO313.out).2.2 | (with_reducible refine Kd.C_alloc ?_ _) | (with_reducible refine Kd.C_drewN ?_ _) | (with_reducible refine Kd.C_drew ?_))); (case side2 => exact (Kd.R_reads' HO313.out).2.1); (case side3 => repeat (first | exact (Kd.R_reads' HO305.out).2.2 | (with_reducible refine Kd.C_alloc ?_ _) | (with_reducible refine Kd.C_drewN ?_ _) | (with_reducible refine Kd.C_drew ?_))); (case side4 => exact (Kd.R_reads' HO305.out).2.1); rintro e w' ⟨rfl, ⟨nd, rfl⟩⟩; refine ⟨_, rfl, ?_⟩))
              go_ret
              exact ⟨er, bw⟩
            · rw [if_neg c14] at H
              have c14b0 : (t311 == 0) = false := beq_eq_false_iff_ne.mpr c14
              have c14b1 : (t311 != 0) = true := bne_iff_ne.mpr c14
              exact absurd ((Option.some.inj H).trans hr_.out) (by decide)
          · rw [if_neg c13] at H
            have c13b0 : (t309 == 0) = false := beq_eq_false_iff_ne.mpr c13
            have c13b1 : (t309 != 0) = true := bne_iff_ne.mpr c13
            exact absurd ((Option.some.inj H).trans hr_.out) (by decide)
        · rw [if_neg c12] at H
          have c12b0 : (t306.toList == a1.toList) = false := beq_eq_false_iff_ne.mpr c12
          have c12b1 : (t306.toList != a1.toList) = true := bne_iff_ne.mpr c12
          exact absurd ((Option.some.inj H).trans hr_.out) (by decide)
      · rw [if_neg c11] at H
        have c11b0 : (t307 == 0) = false := beq_eq_false_iff_ne.mpr c11
        have c11b1 : (t307 != 0) = true := bne_iff_ne.mpr c11
        exact absurd ((Option.some.inj H).trans hr_.out) (by decide)
    · replace c10 := Bool.eq_false_iff.mpr c10
      subst c10
      have H1 : (some false) = some r := by rw [if_neg (show ¬ (false = true) by decide)] at H; exact H
      clear H
      have H := H1
      clear H1
      exact absurd ((Option.some.inj H).trans hr_.out) (by decide)
  · rw [if_neg c5] at H
    have c5b0 : (t303 == 0) = false := beq_eq_false_iff_ne.mpr c5
    have c5b1 : (t303 != 0) = true := bne_iff_ne.mpr c5
    by_cases c22 : t301 = true
    · subst c22
      have H1 : (some ((t302.length : Int) == 0)) = some r := by rw [if_pos rfl] at H; exact H
      clear H
      have H := H1
      clear H1
      obtain rfl := Option.some.inj H
      go_enter Tryd.func6, Tryd.ntmps6
      go_wp2_with (first | ((with_reducible refine gate_callee (f := 10) rfl ?_); refine goesL_ (some 15) rfl rfl Tryd.func10 (by kernel_rfl) rfl #[] rfl am ?_; (with_reducible refine (carillonlaw01_examples.calls  true _ tbk A3.out).mono ?_); rintro e w23 ⟨rfl, hb⟩; refine ⟨_, rfl, ?_⟩; have n0_ := Aside0.mk (below_step bw hb); clear HB; have HB := n0_; clear n0_; (try clear hb); (try clear hb2); (try clear hk); (try clear hi)) | ((with_reducible refine gate_callee (f := 12) rfl ?_); refine goesL_ (some 19) rfl rfl Tryd.func12 (by kernel_rfl) rfl #[.string a0, .string a1] rfl am ?_; (with_reducible refine (codec_Decode.calls k a0 a1 t302 t303 _ tbk A4.out).mono ?_); rintro e w24 ⟨v304, rfl, ho0, hb⟩; refine ⟨_, rfl, ?_⟩; have n0_ := Aside0.mk (Kd.R_lower ho0 (below_size bw)); have n1_ := Aside0.mk (below_step bw hb); clear HB; have HO305 := n0_; have HB := n1_; clear n0_ n1_; (try clear hb); (try clear hb2); (try clear hk); (try clear hi); (try clear ho0); obtain ⟨Ao25, co25, eo25⟩ := Kd.R_slice HO305.out; subst eo25))
      go_ret
      exact ⟨er, bw⟩
    · replace c22 := Bool.eq_false_iff.mpr c22
      subst c22
      have H1 : (some false) = some r := by rw [if_neg (show ¬ (false = true) by decide)] at H; exact H
      clear H
      have H := H1
      clear H1
      exact absurd ((Option.some.inj H).trans hr_.out) (by decide)

end Go.Proofs.YthkncdnpfoccjaaDoor.P
