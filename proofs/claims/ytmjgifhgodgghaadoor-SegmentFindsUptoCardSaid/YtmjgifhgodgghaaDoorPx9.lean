-- Printed by this session's program wip/xp.py (a turned copy of the kit's printer): functions, their contracts.
import Derived.Test.YtmjgifhgodgghaaDoorPx0
import Derived.Test.YtmjgifhgodgghaaDoorPx2
import Derived.Test.YtmjgifhgodgghaaDoorPx4
import Derived.Test.YtmjgifhgodgghaaDoorPx8
import Derived.Test.YtmjgifhgodgghaaDoorPx27
namespace Go.Proofs.YtmjgifhgodgghaaDoor.P
open Go.RowKit Go.Proofs.YtmjgifhgodgghaaDoorW.PrintWords Go.Proofs.YtmjgifhgodgghaaDoorW.PrintLast Go.Proofs.YtmjgifhgodgghaaDoorW.PrintMore
attribute [local go_sem] max2_int min2_int max_two min_two max_three min_three max_four min_four   -- for this text's walks alone
set_option linter.unusedVariables false
set_option linter.unusedSimpArgs false

attribute [local go_sem high] eqA44
/-! ### segment_Scan: function 15 -/
def segment_Scan.l0 : Nat → List (S23) → ByteArray → Int → Int → Int → Option ((List (S23)) × Int × Int)
 | 0, _, _, _, _, _ => none
 | k + 1, x4, x190000, x190001, x190002, x190003 => (segment_reader_next.f k x190000 x190001 x190002 x190003).bind fun bt190 => (if bt190.2.2.2.2.2.1 = true then (if x4.length < 2199023255552 then (segment_Scan.l0 k (x4 ++ [(⟨bt190.1, bt190.2.1, bt190.2.2.1, bt190.2.2.2.1, bt190.2.2.2.2.1⟩ : S23)]) bt190.2.2.2.2.2.2.1 bt190.2.2.2.2.2.2.2.1 bt190.2.2.2.2.2.2.2.2.1 bt190.2.2.2.2.2.2.2.2.2) else (none)) else (some (x4, bt190.2.2.2.2.2.2.2.1, bt190.2.2.2.2.2.2.2.2.2)))
def segment_Scan.f (k : Nat) (a0 : Int) (a1 : ByteArray) : Option ((List (S23)) × Int × Int) := segment_Scan.l0 k ([] : List (S23)) a1 0 a0 0
theorem segment_Scan.mono_l : ∀ k, (∀ y0 y1 y2 y3 y4, LeO (segment_Scan.l0 k y0 y1 y2 y3 y4) (segment_Scan.l0 (k + 1) y0 y1 y2 y3 y4))
 | 0 => fun _ _ _ _ _ r h => by simp [segment_Scan.l0] at h
 | k + 1 => by
  have ih0 := segment_Scan.mono_l k
  ·intro y0 y1 y2 y3 y4
   unfold segment_Scan.l0
   repeat' first
   | (with_reducible exact ih0 _ _ _ _ _)
   | (with_reducible exact segment_reader_next.mono _ _ _ _ _)
   | (with_reducible exact LeO.refl _)
   | (with_reducible exact LeO.none _)
   | (with_reducible refine LeO.ite ?_ ?_)
   | (with_reducible refine LeO.bind ?_ (fun _ => ?_))
   | exact ih0 _ _ _ _ _
   | exact segment_reader_next.mono _ _ _ _ _
   | exact LeO.none _
   | refine LeO.ite ?_ ?_
   | refine LeO.bind ?_ (fun _ => ?_)
theorem segment_Scan.mono : ∀ a0 a1 k, LeO (segment_Scan.f k a0 a1) (segment_Scan.f (k + 1) a0 a1) := by
 intro a0 a1 k
 have ih0 := segment_Scan.mono_l k
 unfold segment_Scan.f
 repeat' first
   | (with_reducible exact ih0 _ _ _ _ _)
   | (with_reducible exact segment_reader_next.mono _ _ _ _ _)
   | (with_reducible exact LeO.refl _)
   | (with_reducible exact LeO.none _)
   | (with_reducible refine LeO.ite ?_ ?_)
   | (with_reducible refine LeO.bind ?_ (fun _ => ?_))
   | exact ih0 _ _ _ _ _
   | exact segment_reader_next.mono _ _ _ _ _
   | exact LeO.none _
   | refine LeO.ite ?_ ?_
   | refine LeO.bind ?_ (fun _ => ?_)
set_option maxHeartbeats 8000000 in
set_option maxRecDepth 100000 in
theorem segment_Scan.calls (k : Nat) (a0 : Int) (a1 : ByteArray) (r1 : List (S23)) (r2 : Int) (r3 : Int) (w : World) (HT_ : TabOk w) (h : segment_Scan.f k a0 a1 = some (r1, r2, r3)) :
  Calls Tryd.prog 15 #[.int .i64 a0, .string a1] w fun e w' => ∃ v0_ : Value, e = .returned (.tuple #[v0_, .int .i64 r2, .int .i64 r3]) ∧ Kd.R k23 23 w' w.heap.size (fun _ => True) v0_ r1 ∧ Below w.heap.size w w' := by
 have HT := Aside0.mk HT_
 clear HT_
 have hu69 := Tryd.underlying69
 have hu71 := Tryd.underlying71
 have hu23 := Tryd.underlying23
 have HB := Aside0.mk (Below.refl w.heap.size w)
 have H : (segment_Scan.l0 k ([] : List (S23)) a1 0 a0 0) = some (r1, r2, r3) := h
 clear h
 have H' := Aside0.mk H
 clear H
 go_enter Tryd.func15, Tryd.ntmps15
 first | refine wp_scope_enter 0 rfl ?_ | (go_wp2; refine wp_scope_enter 0 rfl ?_)
 go_wp2_with (first | ((with_reducible refine gate_dst (N := 7) rfl ?_); refine box_event ?hg (N := 7) ?hd (cs := #[.string (⟨#[]⟩ : ByteArray), .int .i64 0, .int .i64 0, .int .i64 0]) (t := 71) ?hr ?_; (case hd => rfl); (case hg => rfl); (case hr => first | (go_simp; done) | (go_simp; rfl)); intro gb189 hg w3 hbox hb; have n0_ := Aside0.mk (below_step bw hb); have n1_ := Aside0.mk ((show IsS71 w w3 gb189 (⟨#[]⟩ : ByteArray) 0 0 0 from ⟨hbox, by rw [hg]; exact (below_size bw)⟩)); clear HB; have HB := n0_; have HI189 := n1_; clear n0_ n1_; clear hb hbox hg; obtain ⟨HGz4, hgz4⟩ := HI189.out; have hcz4_0 := cellS71_0 HGz4; have hcz4_1 := cellS71_1 HGz4; have hcz4_2 := cellS71_2 HGz4; have hcz4_3 := cellS71_3 HGz4; have hfz4_0 := blk_frozen HGz4 0; have hfz4_1 := blk_frozen HGz4 1; have hfz4_2 := blk_frozen HGz4 2; have hfz4_3 := blk_frozen HGz4 3; clear HGz4 hgz4))
 go_step3
 rename_i hK_
 refine hK_ _ _ ?_
 refine wp_label_ghost_k (fun kq a' w' => ∃ (u0 u1 u2 u3 u4 u5 u6 u8 u9 u10 u11 u12 u13 u14 u15 u16 u17 u18 u19 u20 u21 u22 u23 u24 u25 u26 u27 u28 : Value), (∃ (x4_1 : List (S23)) (x190000_1 : ByteArray) (x190001_1 : Int) (x190002_1 : Int) (x190003_1 : Int), Aside0 (segment_Scan.l0 kq x4_1 x190000_1 x190001_1 x190002_1 x190003_1 = some (r1, r2, r3)) ∧ Aside0 (kq ≤ k) ∧ Aside0 (Kd.R k23 23 w' w.heap.size (fun _ => True) u4 x4_1) ∧ Aside0 (IsS71 w w' gb189 x190000_1 x190001_1 x190002_1 x190003_1) ∧ Aside0 (Below w.heap.size w w')) ∧ a' = { tmps := #[u0, u1, u2, u3, u4, u5, u6, .pointer (some ⟨gb189, 0, none⟩), u8, u9, u10, u11, u12, u13, u14, u15, u16, u17, u18, u19, u20, u21, u22, u23, u24, u25, u26, u27, u28], defers := [] }) k rfl ?_ ?_
 ·(repeat apply Exists.intro); refine ⟨?_, rfl⟩; exact ⟨(([] : List (S23))), (a1), (0), (a0), (0), H', ⟨Nat.le_refl _⟩, ⟨by first | exact Kd.R_nil _ _ _ _ _ | exact Kd.N_nil _ _ _ _ _ | exact Kd.V_nil _ _ _ _ _ | exact Kd.Q_nil _ _ _ _ _ | exact Kd.S_nil _ _ _ _ _⟩, ⟨by repeat (first | (with_reducible first | exact HI189.out | apply IsS71.alloc | apply IsS71.drewN | apply IsS71.drew | apply IsS71.set_0 | apply IsS71.set_1 | apply IsS71.set_2 | apply IsS71.set_3) | exact HI189.out)⟩, ⟨by repeat (first | (with_reducible first | exact HB.out | apply below_alloc | apply pw_below_drewN | apply below_drew1 | refine below_set ?_ (IsS71.ge HI189.out)) | exact HB.out)⟩⟩
 ·intro gk _ wr hinv
  obtain ⟨u0, u1, u2, u3, u4, u5, u6, u8, u9, u10, u11, u12, u13, u14, u15, u16, u17, u18, u19, u20, u21, u22, u23, u24, u25, u26, u27, u28, hrel, ha⟩ := hinv
  subst ha
  (try dsimp only)
  intro _ _ _ _
  clear H'
  try clear c1
  try clear p2
  try clear p3
  try clear hcz4_0
  try clear hcz4_1
  try clear hcz4_2
  try clear hcz4_3
  try clear hfz4_0
  try clear hfz4_1
  try clear hfz4_2
  try clear hfz4_3
  obtain ⟨x4_1, x190000_1, x190001_1, x190002_1, x190003_1, HA, HK1, HO_4, HI189, HB⟩ := hrel
  cases gk with
  | zero => exact absurd HA.out (by simp [segment_Scan.l0])
  | succ k1 =>
   have H := HA.out
   clear HA
   simp only [segment_Scan.l0] at H
   replace H := Option.bind_eq_some_iff.mp H
   obtain ⟨⟨t190, t191, t192, t193, t194, t195, t196, t197, t198, t199⟩, A50, H⟩ := H
   replace H : (if t195 = true then (if x4_1.length < 2199023255552 then (segment_Scan.l0 k1 (x4_1 ++ [(⟨t190, t191, t192, t193, t194⟩ : S23)]) t196 t197 t198 t199) else (none)) else (some (x4_1, t197, t199))) = some (r1, r2, r3) := H
   have A5 := Aside0.mk A50
   clear A50
   by_cases c6 : t195 = true
   ·subst c6
    have H1 : (if x4_1.length < 2199023255552 then (segment_Scan.l0 k1 (x4_1 ++ [(⟨t190, t191, t192, t193, t194⟩ : S23)]) t196 t197 t198 t199) else (none)) = some (r1, r2, r3) := by rw [if_pos rfl] at H; exact H
    clear H
    have H := H1
    clear H1
    by_cases c7 : x4_1.length < 2199023255552
    ·rw [if_pos c7] at H
     have LMc7 := Aside0.mk c7
     clear c7
     obtain ⟨y201, hy201⟩ : ∃ y_ : List (S23), y_ = (x4_1 ++ [(⟨t190, t191, t192, t193, t194⟩ : S23)]) := ⟨_, rfl⟩
     replace H : (segment_Scan.l0 k1 y201 t196 t197 t198 t199) = some (r1, r2, r3) := by first | (rw [hy201]; with_reducible exact H) | (have H2_ := (Option.bind_some _ _).symm.trans H; rw [hy201]; with_reducible exact H2_) | (have H2_ := (Option.bind_some _ _).symm.trans H; with_reducible exact H2_) | with_reducible exact H | (rw [hy201]; exact H) | exact H
     have Ny201 := Aside0.mk hy201
     clear hy201
     have H' := Aside0.mk H
     clear H
     go_wp2_with (first | (go_at_call 30; (with_reducible refine (segment_reader_next.calls k1 gb189 x190000_1 x190001_1 x190002_1 x190003_1 t190 t191 t192 t193 t194 true t196 t197 t198 t199 w _ ?side1 ?side2 tbk A5.out).mono ?_); (case side1 => repeat (first | (with_reducible first | exact HI189.out | apply IsS71.alloc | apply IsS71.drewN | apply IsS71.drew | apply IsS71.set_0 | apply IsS71.set_1 | apply IsS71.set_2 | apply IsS71.set_3) | exact HI189.out)); (case side2 => repeat (first | (with_reducible first | exact HB.out | apply below_alloc | apply pw_below_drewN | apply below_drew1 | refine below_set ?_ (IsS71.ge HI189.out)) | exact HB.out)); rintro e w8 ⟨rfl, hi, hb, hk⟩; have n0_ := Aside0.mk (Kd.R_mono (Kd.R_keep (IsS71.apart (show IsS71 w _ gb189 x190000_1 x190001_1 x190002_1 x190003_1 from by repeat (first | (with_reducible first | exact HI189.out | apply IsS71.alloc | apply IsS71.drewN | apply IsS71.drew | apply IsS71.set_0 | apply IsS71.set_1 | apply IsS71.set_2 | apply IsS71.set_3) | exact HI189.out)) (by (with_reducible repeat (first | apply Kd.R_alloc | apply Kd.R_drewN | apply Kd.R_drew)); exact HO_4.out) (by decide)) hk (fun _ h => h.2)) (fun _ h => h.1)); have n1_ := Aside0.mk (hb); have n2_ := Aside0.mk (hi); clear HO_4; clear HB; clear HI189; have HO_4 := n0_; have HB := n1_; have HI189 := n2_; clear n0_ n1_ n2_; (try clear hb); (try clear hb2); (try clear hk); (try clear hi)) | ((with_reducible refine gate_dst (N := 8) rfl ?_); refine box_event ?hg (N := 8) ?hd (cs := #[.int .i64 0, .string (⟨#[]⟩ : ByteArray), .int .i64 0, .string (⟨#[]⟩ : ByteArray), .string (⟨#[]⟩ : ByteArray)]) (t := 23) ?hr ?_; (case hd => rfl); (case hg => rfl); (case hr => first | (go_simp; done) | (go_simp; rfl)); intro gb200 hg w9 hbox hb; have n0_ := Aside0.mk (Kd.R_below (Kd.R_elderB (by (with_reducible repeat (first | apply Kd.R_alloc | apply Kd.R_drewN | apply Kd.R_drew)); exact HO_4.out) gb200 (Nat.le_of_eq hg.symm)) hb); have n1_ := Aside0.mk (IsS71.below (by repeat (first | (with_reducible first | exact HI189.out | apply IsS71.alloc | apply IsS71.drewN | apply IsS71.drew | apply IsS71.set_0 | apply IsS71.set_1 | apply IsS71.set_2 | apply IsS71.set_3) | exact HI189.out)) hb); have n2_ := Aside0.mk (below_step (by repeat (first | (with_reducible first | exact HB.out | apply below_alloc | apply pw_below_drewN | apply below_drew1 | refine below_set ?_ (IsS71.ge HI189.out)) | exact HB.out)) hb); have n3_ := Aside0.mk (hbox); have n4_ := Aside0.mk ((by rw [hg]; exact (below_size (by repeat (first | (with_reducible first | exact HB.out | apply below_alloc | apply pw_below_drewN | apply below_drew1 | refine below_set ?_ (IsS71.ge HI189.out)) | exact HB.out))) : w.heap.size ≤ gb200)); have n5_ := Aside0.mk ((by rw [hg]; exact (below_size (by repeat (first | (with_reducible first | exact HB.out | apply below_alloc | apply pw_below_drewN | apply below_drew1 | refine below_set ?_ (IsS71.ge HI189.out)) | exact HB.out))) : w.heap.size ≤ gb200)); have n6_ := Aside0.mk ((by rw [hg]; exact Nat.ne_of_lt (IsS71.lt (show IsS71 w _ gb189 t196 t197 t198 t199 from by repeat (first | (with_reducible first | exact HI189.out | apply IsS71.alloc | apply IsS71.drewN | apply IsS71.drew | apply IsS71.set_0 | apply IsS71.set_1 | apply IsS71.set_2 | apply IsS71.set_3) | exact HI189.out))) : gb189 ≠ gb200)); have n7_ := Aside0.mk ((by rw [hg]; exact Nat.ne_of_gt (IsS71.lt (show IsS71 w _ gb189 t196 t197 t198 t199 from by repeat (first | (with_reducible first | exact HI189.out | apply IsS71.alloc | apply IsS71.drewN | apply IsS71.drew | apply IsS71.set_0 | apply IsS71.set_1 | apply IsS71.set_2 | apply IsS71.set_3) | exact HI189.out))) : gb200 ≠ gb189)); clear HO_4; clear HI189; clear HB; have HO_4 := n0_; have HI189 := n1_; have HB := n2_; have BK200 := n3_; have GW200 := n4_; have GE200 := n5_; have NB189_200 := n6_; have NB200_189 := n7_; clear n0_ n1_ n2_ n3_ n4_ n5_ n6_ n7_; clear hb hbox hg; have hnb10 := NB200_189.out; have hnc10 := NB189_200.out; have hcz11_0 := bc5_0 BK200.out; have hcz11_1 := bc5_1 BK200.out; have hcz11_2 := bc5_2 BK200.out; have hcz11_3 := bc5_3 BK200.out; have hcz11_4 := bc5_4 BK200.out; have hfz11_0 := blk_frozen BK200.out 0; have hfz11_1 := blk_frozen BK200.out 1; have hfz11_2 := blk_frozen BK200.out 2; have hfz11_3 := blk_frozen BK200.out 3; have hfz11_4 := blk_frozen BK200.out 4) | ((with_reducible refine gate_builtin (b := .append) (xs := #[.tmp 19, .tmp 21]) rfl ?_); at_builtin; refine Kd.R_append k23 (w0 := w) w.heap.size rfl (.tmp 19) (.tmp 21) 31 23 (.agg #[(.int .i64 0), (.string ⟨#[]⟩), (.int .i64 0), (.string ⟨#[]⟩), (.string ⟨#[]⟩)]) 64 rfl Tryd.underlying31 info23 rfl (by decide) (by omega) u4 x4_1 (⟨t190, t191, t192, t193, t194⟩ : S23) [.int .i64 t190, .string t191, .int .i64 t192, .string t193, .string t194] (fun k_ => k_ ≠ gb200) (fun _ => False) rfl (by first | (go_simp; done) | (go_simp; rfl)) ?aP (fun _ hk => hk.elim) ?aF ?aO ?aB ?aS ?aL ?_; (case aP => exact k23_mkM _ _ _ (⟨t190, t191, t192, t193, t194⟩ : S23)); (case aB => exact (by repeat (first | (with_reducible first | exact HB.out | apply below_alloc | apply pw_below_drewN | apply below_drew1 | refine below_set ?_ (IsS71.ge HI189.out) | refine below_set ?_ GE200.out) | exact HB.out))); (case aF => exact (fun k_ hk => Kd.freshB (g := gb200) (o := .cells #[.int .i64 t190, .string t191, .int .i64 t192, .string t193, .string t194] 23 (0, 0)) (by (with_reducible repeat (first | refine blk_drewN ?_ _ | refine blk_drew ?_ | refine blk_alloc ?_ _)); refine blk_put (cs := #[.int .i64 t190, .string t191, .int .i64 t192, .string t193, .string (⟨#[]⟩ : ByteArray)]) ?_ 4 _ rfl; (with_reducible repeat (first | refine blk_drewN ?_ _ | refine blk_drew ?_ | refine blk_alloc ?_ _)); refine blk_put (cs := #[.int .i64 t190, .string t191, .int .i64 t192, .string (⟨#[]⟩ : ByteArray), .string (⟨#[]⟩ : ByteArray)]) ?_ 3 _ rfl; (with_reducible repeat (first | refine blk_drewN ?_ _ | refine blk_drew ?_ | refine blk_alloc ?_ _)); refine blk_put (cs := #[.int .i64 t190, .string t191, .int .i64 0, .string (⟨#[]⟩ : ByteArray), .string (⟨#[]⟩ : ByteArray)]) ?_ 2 _ rfl; (with_reducible repeat (first | refine blk_drewN ?_ _ | refine blk_drew ?_ | refine blk_alloc ?_ _)); refine blk_put (cs := #[.int .i64 t190, .string (⟨#[]⟩ : ByteArray), .int .i64 0, .string (⟨#[]⟩ : ByteArray), .string (⟨#[]⟩ : ByteArray)]) ?_ 1 _ rfl; (with_reducible repeat (first | refine blk_drewN ?_ _ | refine blk_drew ?_ | refine blk_alloc ?_ _)); refine blk_put (cs := #[.int .i64 0, .string (⟨#[]⟩ : ByteArray), .int .i64 0, .string (⟨#[]⟩ : ByteArray), .string (⟨#[]⟩ : ByteArray)]) ?_ 0 _ rfl; (with_reducible repeat (first | refine blk_drewN ?_ _ | refine blk_drew ?_ | refine blk_alloc ?_ _)); exact BK200.out) k_ hk)); (case aO => exact (by (with_reducible repeat (first | apply Kd.R_alloc | apply Kd.R_drewN | apply Kd.R_drew)); exact Kd.R_mono (Kd.R_far (p := ⟨gb200, 4, none⟩) (Kd.R_far (p := ⟨gb200, 3, none⟩) (Kd.R_far (p := ⟨gb200, 2, none⟩) (Kd.R_far (p := ⟨gb200, 1, none⟩) (Kd.R_far (p := ⟨gb200, 0, none⟩) (Kd.R_mono HO_4.out (fun k_ hk => (⟨hk, hk.2⟩ : _ ∧ k_ ≠ gb200))) (fun _ hk => hk.2) (.int .i64 t190)) (fun _ hk => hk.2) (.string t191)) (fun _ hk => hk.2) (.int .i64 t192)) (fun _ hk => hk.2) (.string t193)) (fun _ hk => hk.2) (.string t194)) (fun _ hk => hk.1.2))); (case aS => exact (below_size (by repeat (first | (with_reducible first | exact HB.out | apply below_alloc | apply pw_below_drewN | apply below_drew1 | refine below_set ?_ (IsS71.ge HI189.out) | refine below_set ?_ GE200.out) | exact HB.out)))); (case aL => have := LMc7.out; omega); intro v202 w12 ho hb hg hat; rw [← Ny201.out] at ho; have n0_ := Aside0.mk (IsS71.grown (show IsS71 w _ gb189 t196 t197 t198 t199 from by repeat (first | (with_reducible first | exact HI189.out | apply IsS71.alloc | apply IsS71.drewN | apply IsS71.drew | apply IsS71.set_0 | apply IsS71.set_1 | apply IsS71.set_2 | apply IsS71.set_3 | refine IsS71.far ?_ NB189_200.out _) | exact HI189.out)) hg (IsS71.own_ne HI189.out HO_4.out (by decide))); have n1_ := Aside0.mk (blk_grown (g := gb200) (o := .cells #[.int .i64 t190, .string t191, .int .i64 t192, .string t193, .string t194] 23 (0, 0)) (by (with_reducible repeat (first | refine blk_drewN ?_ _ | refine blk_drew ?_ | refine blk_alloc ?_ _)); refine blk_put (cs := #[.int .i64 t190, .string t191, .int .i64 t192, .string t193, .string (⟨#[]⟩ : ByteArray)]) ?_ 4 _ rfl; (with_reducible repeat (first | refine blk_drewN ?_ _ | refine blk_drew ?_ | refine blk_alloc ?_ _)); refine blk_put (cs := #[.int .i64 t190, .string t191, .int .i64 t192, .string (⟨#[]⟩ : ByteArray), .string (⟨#[]⟩ : ByteArray)]) ?_ 3 _ rfl; (with_reducible repeat (first | refine blk_drewN ?_ _ | refine blk_drew ?_ | refine blk_alloc ?_ _)); refine blk_put (cs := #[.int .i64 t190, .string t191, .int .i64 0, .string (⟨#[]⟩ : ByteArray), .string (⟨#[]⟩ : ByteArray)]) ?_ 2 _ rfl; (with_reducible repeat (first | refine blk_drewN ?_ _ | refine blk_drew ?_ | refine blk_alloc ?_ _)); refine blk_put (cs := #[.int .i64 t190, .string (⟨#[]⟩ : ByteArray), .int .i64 0, .string (⟨#[]⟩ : ByteArray), .string (⟨#[]⟩ : ByteArray)]) ?_ 1 _ rfl; (with_reducible repeat (first | refine blk_drewN ?_ _ | refine blk_drew ?_ | refine blk_alloc ?_ _)); refine blk_put (cs := #[.int .i64 0, .string (⟨#[]⟩ : ByteArray), .int .i64 0, .string (⟨#[]⟩ : ByteArray), .string (⟨#[]⟩ : ByteArray)]) ?_ 0 _ rfl; (with_reducible repeat (first | refine blk_drewN ?_ _ | refine blk_drew ?_ | refine blk_alloc ?_ _)); exact BK200.out) hg (Kd.R_away HO_4.out (fun _ hk => hk.2))); have n2_ := Aside0.mk (hb); have n3_ := Aside0.mk (ho); clear HI189; clear BK200; clear HB; clear HO_4; have HI189 := n0_; have BK200 := n1_; have HB := n2_; have HO203 := n3_; clear n0_ n1_ n2_ n3_; clear ho hb hg hat))
     go_step3
     refine ⟨rfl, ?_⟩
     try go_step
     go_roundg k1
     case measure => have := HK1.out; omega
     case rel => exact ⟨(y201), (t196), (t197), (t198), (t199), H', ⟨by have := HK1.out; omega⟩, ⟨by (with_reducible repeat (first | apply Kd.R_alloc | apply Kd.R_drewN | apply Kd.R_drew)); exact Kd.R_mono HO203.out (fun _ hk => trivial)⟩, ⟨by repeat (first | (with_reducible first | exact HI189.out | apply IsS71.alloc | apply IsS71.drewN | apply IsS71.drew | apply IsS71.set_0 | apply IsS71.set_1 | apply IsS71.set_2 | apply IsS71.set_3 | refine IsS71.far ?_ NB189_200.out _) | exact HI189.out)⟩, ⟨by repeat (first | (with_reducible first | exact HB.out | apply below_alloc | apply pw_below_drewN | apply below_drew1 | refine below_set ?_ (IsS71.ge HI189.out) | refine below_set ?_ GE200.out) | exact HB.out)⟩⟩
    ·rw [if_neg c7] at H
     exact absurd H (by simp)
   ·replace c6 := Bool.eq_false_iff.mpr c6
    subst c6
    have H1 : (some (x4_1, t197, t199)) = some (r1, r2, r3) := by rw [if_neg (show ¬ (false = true) by decide)] at H; exact H
    clear H
    have H := H1
    clear H1
    simp only [Option.some.injEq, Prod.mk.injEq] at H
    obtain ⟨rfl, rfl, rfl⟩ := H
    go_wp2_with (first | (go_at_call 30; (with_reducible refine (segment_reader_next.calls k1 gb189 x190000_1 x190001_1 x190002_1 x190003_1 t190 t191 t192 t193 t194 false t196 t197 t198 t199 w _ ?side1 ?side2 tbk A5.out).mono ?_); (case side1 => repeat (first | (with_reducible first | exact HI189.out | apply IsS71.alloc | apply IsS71.drewN | apply IsS71.drew | apply IsS71.set_0 | apply IsS71.set_1 | apply IsS71.set_2 | apply IsS71.set_3) | exact HI189.out)); (case side2 => repeat (first | (with_reducible first | exact HB.out | apply below_alloc | apply pw_below_drewN | apply below_drew1 | refine below_set ?_ (IsS71.ge HI189.out)) | exact HB.out)); rintro e w13 ⟨rfl, hi, hb, hk⟩; have n0_ := Aside0.mk (Kd.R_mono (Kd.R_keep (IsS71.apart (show IsS71 w _ gb189 x190000_1 x190001_1 x190002_1 x190003_1 from by repeat (first | (with_reducible first | exact HI189.out | apply IsS71.alloc | apply IsS71.drewN | apply IsS71.drew | apply IsS71.set_0 | apply IsS71.set_1 | apply IsS71.set_2 | apply IsS71.set_3) | exact HI189.out)) (by (with_reducible repeat (first | apply Kd.R_alloc | apply Kd.R_drewN | apply Kd.R_drew)); exact HO_4.out) (by decide)) hk (fun _ h => h.2)) (fun _ h => h.1)); have n1_ := Aside0.mk (hb); have n2_ := Aside0.mk (hi); clear HO_4; clear HB; clear HI189; have HO_4 := n0_; have HB := n1_; have HI189 := n2_; clear n0_ n1_ n2_; (try clear hb); (try clear hb2); (try clear hk); (try clear hi)) | ((with_reducible refine gate_dst (N := 8) rfl ?_); refine box_event ?hg (N := 8) ?hd (cs := #[.int .i64 0, .string (⟨#[]⟩ : ByteArray), .int .i64 0, .string (⟨#[]⟩ : ByteArray), .string (⟨#[]⟩ : ByteArray)]) (t := 23) ?hr ?_; (case hd => rfl); (case hg => rfl); (case hr => first | (go_simp; done) | (go_simp; rfl)); intro gb200 hg w14 hbox hb; have n0_ := Aside0.mk (Kd.R_below (Kd.R_elderB (by (with_reducible repeat (first | apply Kd.R_alloc | apply Kd.R_drewN | apply Kd.R_drew)); exact HO_4.out) gb200 (Nat.le_of_eq hg.symm)) hb); have n1_ := Aside0.mk (IsS71.below (by repeat (first | (with_reducible first | exact HI189.out | apply IsS71.alloc | apply IsS71.drewN | apply IsS71.drew | apply IsS71.set_0 | apply IsS71.set_1 | apply IsS71.set_2 | apply IsS71.set_3) | exact HI189.out)) hb); have n2_ := Aside0.mk (below_step (by repeat (first | (with_reducible first | exact HB.out | apply below_alloc | apply pw_below_drewN | apply below_drew1 | refine below_set ?_ (IsS71.ge HI189.out)) | exact HB.out)) hb); have n3_ := Aside0.mk (hbox); have n4_ := Aside0.mk ((by rw [hg]; exact (below_size (by repeat (first | (with_reducible first | exact HB.out | apply below_alloc | apply pw_below_drewN | apply below_drew1 | refine below_set ?_ (IsS71.ge HI189.out)) | exact HB.out))) : w.heap.size ≤ gb200)); have n5_ := Aside0.mk ((by rw [hg]; exact (below_size (by repeat (first | (with_reducible first | exact HB.out | apply below_alloc | apply pw_below_drewN | apply below_drew1 | refine below_set ?_ (IsS71.ge HI189.out)) | exact HB.out))) : w.heap.size ≤ gb200)); have n6_ := Aside0.mk ((by rw [hg]; exact Nat.ne_of_lt (IsS71.lt (show IsS71 w _ gb189 t196 t197 t198 t199 from by repeat (first | (with_reducible first | exact HI189.out | apply IsS71.alloc | apply IsS71.drewN | apply IsS71.drew | apply IsS71.set_0 | apply IsS71.set_1 | apply IsS71.set_2 | apply IsS71.set_3) | exact HI189.out))) : gb189 ≠ gb200)); have n7_ := Aside0.mk ((by rw [hg]; exact Nat.ne_of_gt (IsS71.lt (show IsS71 w _ gb189 t196 t197 t198 t199 from by repeat (first | (with_reducible first | exact HI189.out | apply IsS71.alloc | apply IsS71.drewN | apply IsS71.drew | apply IsS71.set_0 | apply IsS71.set_1 | apply IsS71.set_2 | apply IsS71.set_3) | exact HI189.out))) : gb200 ≠ gb189)); clear HO_4; clear HI189; clear HB; have HO_4 := n0_; have HI189 := n1_; have HB := n2_; have BK200 := n3_; have GW200 := n4_; have GE200 := n5_; have NB189_200 := n6_; have NB200_189 := n7_; clear n0_ n1_ n2_ n3_ n4_ n5_ n6_ n7_; clear hb hbox hg; have hnb15 := NB200_189.out; have hnc15 := NB189_200.out; have hcz16_0 := bc5_0 BK200.out; have hcz16_1 := bc5_1 BK200.out; have hcz16_2 := bc5_2 BK200.out; have hcz16_3 := bc5_3 BK200.out; have hcz16_4 := bc5_4 BK200.out; have hfz16_0 := blk_frozen BK200.out 0; have hfz16_1 := blk_frozen BK200.out 1; have hfz16_2 := blk_frozen BK200.out 2; have hfz16_3 := blk_frozen BK200.out 3; have hfz16_4 := blk_frozen BK200.out 4; obtain ⟨HGz17, hgz17⟩ := HI189.out; have hcz17_0 := cellS71_0 HGz17; have hcz17_1 := cellS71_1 HGz17; have hcz17_2 := cellS71_2 HGz17; have hcz17_3 := cellS71_3 HGz17; have hfz17_0 := blk_frozen HGz17 0; have hfz17_1 := blk_frozen HGz17 1; have hfz17_2 := blk_frozen HGz17 2; have hfz17_3 := blk_frozen HGz17 3; clear HGz17 hgz17))
    repeat (go_quiet (first | (go_at_call 30; (with_reducible refine (segment_reader_next.calls k1 gb189 x190000_1 x190001_1 x190002_1 x190003_1 t190 t191 t192 t193 t194 false t196 t197 t198 t199 w _ ?side1 ?side2 tbk A5.out).mono ?_); (case side1 => repeat (first | (with_reducible first | exact HI189.out | apply IsS71.alloc | apply IsS71.drewN | apply IsS71.drew | apply IsS71.set_0 | apply IsS71.set_1 | apply IsS71.set_2 | apply IsS71.set_3) | exact HI189.out)); (case side2 => repeat (first | (with_reducible first | exact HB.out | apply below_alloc | apply pw_below_drewN | apply below_drew1 | refine below_set ?_ (IsS71.ge HI189.out)) | exact HB.out)); rintro e w13 ⟨rfl, hi, hb, hk⟩; have n0_ := Aside0.mk (Kd.R_mono (Kd.R_keep (IsS71.apart (show IsS71 w _ gb189 x190000_1 x190001_1 x190002_1 x190003_1 from by repeat (first | (with_reducible first | exact HI189.out | apply IsS71.alloc | apply IsS71.drewN | apply IsS71.drew | apply IsS71.set_0 | apply IsS71.set_1 | apply IsS71.set_2 | apply IsS71.set_3) | exact HI189.out)) (by (with_reducible repeat (first | apply Kd.R_alloc | apply Kd.R_drewN | apply Kd.R_drew)); exact HO_4.out) (by decide)) hk (fun _ h => h.2)) (fun _ h => h.1)); have n1_ := Aside0.mk (hb); have n2_ := Aside0.mk (hi); clear HO_4; clear HB; clear HI189; have HO_4 := n0_; have HB := n1_; have HI189 := n2_; clear n0_ n1_ n2_; (try clear hb); (try clear hb2); (try clear hk); (try clear hi)) | ((with_reducible refine gate_dst (N := 8) rfl ?_); refine box_event ?hg (N := 8) ?hd (cs := #[.int .i64 0, .string (⟨#[]⟩ : ByteArray), .int .i64 0, .string (⟨#[]⟩ : ByteArray), .string (⟨#[]⟩ : ByteArray)]) (t := 23) ?hr ?_; (case hd => rfl); (case hg => rfl); (case hr => first | (go_simp; done) | (go_simp; rfl)); intro gb200 hg w14 hbox hb; have n0_ := Aside0.mk (Kd.R_below (Kd.R_elderB (by (with_reducible repeat (first | apply Kd.R_alloc | apply Kd.R_drewN | apply Kd.R_drew)); exact HO_4.out) gb200 (Nat.le_of_eq hg.symm)) hb); have n1_ := Aside0.mk (IsS71.below (by repeat (first | (with_reducible first | exact HI189.out | apply IsS71.alloc | apply IsS71.drewN | apply IsS71.drew | apply IsS71.set_0 | apply IsS71.set_1 | apply IsS71.set_2 | apply IsS71.set_3) | exact HI189.out)) hb); have n2_ := Aside0.mk (below_step (by repeat (first | (with_reducible first | exact HB.out | apply below_alloc | apply pw_below_drewN | apply below_drew1 | refine below_set ?_ (IsS71.ge HI189.out)) | exact HB.out)) hb); have n3_ := Aside0.mk (hbox); have n4_ := Aside0.mk ((by rw [hg]; exact (below_size (by repeat (first | (with_reducible first | exact HB.out | apply below_alloc | apply pw_below_drewN | apply below_drew1 | refine below_set ?_ (IsS71.ge HI189.out)) | exact HB.out))) : w.heap.size ≤ gb200)); have n5_ := Aside0.mk ((by rw [hg]; exact (below_size (by repeat (first | (with_reducible first | exact HB.out | apply below_alloc | apply pw_below_drewN | apply below_drew1 | refine below_set ?_ (IsS71.ge HI189.out)) | exact HB.out))) : w.heap.size ≤ gb200)); have n6_ := Aside0.mk ((by rw [hg]; exact Nat.ne_of_lt (IsS71.lt (show IsS71 w _ gb189 t196 t197 t198 t199 from by repeat (first | (with_reducible first | exact HI189.out | apply IsS71.alloc | apply IsS71.drewN | apply IsS71.drew | apply IsS71.set_0 | apply IsS71.set_1 | apply IsS71.set_2 | apply IsS71.set_3) | exact HI189.out))) : gb189 ≠ gb200)); have n7_ := Aside0.mk ((by rw [hg]; exact Nat.ne_of_gt (IsS71.lt (show IsS71 w _ gb189 t196 t197 t198 t199 from by repeat (first | (with_reducible first | exact HI189.out | apply IsS71.alloc | apply IsS71.drewN | apply IsS71.drew | apply IsS71.set_0 | apply IsS71.set_1 | apply IsS71.set_2 | apply IsS71.set_3) | exact HI189.out))) : gb200 ≠ gb189)); clear HO_4; clear HI189; clear HB; have HO_4 := n0_; have HI189 := n1_; have HB := n2_; have BK200 := n3_; have GW200 := n4_; have GE200 := n5_; have NB189_200 := n6_; have NB200_189 := n7_; clear n0_ n1_ n2_ n3_ n4_ n5_ n6_ n7_; clear hb hbox hg; have hnb15 := NB200_189.out; have hnc15 := NB189_200.out; have hcz16_0 := bc5_0 BK200.out; have hcz16_1 := bc5_1 BK200.out; have hcz16_2 := bc5_2 BK200.out; have hcz16_3 := bc5_3 BK200.out; have hcz16_4 := bc5_4 BK200.out; have hfz16_0 := blk_frozen BK200.out 0; have hfz16_1 := blk_frozen BK200.out 1; have hfz16_2 := blk_frozen BK200.out 2; have hfz16_3 := blk_frozen BK200.out 3; have hfz16_4 := blk_frozen BK200.out 4; obtain ⟨HGz17, hgz17⟩ := HI189.out; have hcz17_0 := cellS71_0 HGz17; have hcz17_1 := cellS71_1 HGz17; have hcz17_2 := cellS71_2 HGz17; have hcz17_3 := cellS71_3 HGz17; have hfz17_0 := blk_frozen HGz17 0; have hfz17_1 := blk_frozen HGz17 1; have hfz17_2 := blk_frozen HGz17 2; have hfz17_3 := blk_frozen HGz17 3; clear HGz17 hgz17)); try go_wp2_with (first | (go_at_call 30; (with_reducible refine (segment_reader_next.calls k1 gb189 x190000_1 x190001_1 x190002_1 x190003_1 t190 t191 t192 t193 t194 false t196 t197 t198 t199 w _ ?side1 ?side2 tbk A5.out).mono ?_); (case side1 => repeat (first | (with_reducible first | exact HI189.out | apply IsS71.alloc | apply IsS71.drewN | apply IsS71.drew | apply IsS71.set_0 | apply IsS71.set_1 | apply IsS71.set_2 | apply IsS71.set_3) | exact HI189.out)); (case side2 => repeat (first | (with_reducible first | exact HB.out | apply below_alloc | apply pw_below_drewN | apply below_drew1 | refine below_set ?_ (IsS71.ge HI189.out)) | exact HB.out)); rintro e w13 ⟨rfl, hi, hb, hk⟩; have n0_ := Aside0.mk (Kd.R_mono (Kd.R_keep (IsS71.apart (show IsS71 w _ gb189 x190000_1 x190001_1 x190002_1 x190003_1 from by repeat (first | (with_reducible first | exact HI189.out | apply IsS71.alloc | apply IsS71.drewN | apply IsS71.drew | apply IsS71.set_0 | apply IsS71.set_1 | apply IsS71.set_2 | apply IsS71.set_3) | exact HI189.out)) (by (with_reducible repeat (first | apply Kd.R_alloc | apply Kd.R_drewN | apply Kd.R_drew)); exact HO_4.out) (by decide)) hk (fun _ h => h.2)) (fun _ h => h.1)); have n1_ := Aside0.mk (hb); have n2_ := Aside0.mk (hi); clear HO_4; clear HB; clear HI189; have HO_4 := n0_; have HB := n1_; have HI189 := n2_; clear n0_ n1_ n2_; (try clear hb); (try clear hb2); (try clear hk); (try clear hi)) | ((with_reducible refine gate_dst (N := 8) rfl ?_); refine box_event ?hg (N := 8) ?hd (cs := #[.int .i64 0, .string (⟨#[]⟩ : ByteArray), .int .i64 0, .string (⟨#[]⟩ : ByteArray), .string (⟨#[]⟩ : ByteArray)]) (t := 23) ?hr ?_; (case hd => rfl); (case hg => rfl); (case hr => first | (go_simp; done) | (go_simp; rfl)); intro gb200 hg w14 hbox hb; have n0_ := Aside0.mk (Kd.R_below (Kd.R_elderB (by (with_reducible repeat (first | apply Kd.R_alloc | apply Kd.R_drewN | apply Kd.R_drew)); exact HO_4.out) gb200 (Nat.le_of_eq hg.symm)) hb); have n1_ := Aside0.mk (IsS71.below (by repeat (first | (with_reducible first | exact HI189.out | apply IsS71.alloc | apply IsS71.drewN | apply IsS71.drew | apply IsS71.set_0 | apply IsS71.set_1 | apply IsS71.set_2 | apply IsS71.set_3) | exact HI189.out)) hb); have n2_ := Aside0.mk (below_step (by repeat (first | (with_reducible first | exact HB.out | apply below_alloc | apply pw_below_drewN | apply below_drew1 | refine below_set ?_ (IsS71.ge HI189.out)) | exact HB.out)) hb); have n3_ := Aside0.mk (hbox); have n4_ := Aside0.mk ((by rw [hg]; exact (below_size (by repeat (first | (with_reducible first | exact HB.out | apply below_alloc | apply pw_below_drewN | apply below_drew1 | refine below_set ?_ (IsS71.ge HI189.out)) | exact HB.out))) : w.heap.size ≤ gb200)); have n5_ := Aside0.mk ((by rw [hg]; exact (below_size (by repeat (first | (with_reducible first | exact HB.out | apply below_alloc | apply pw_below_drewN | apply below_drew1 | refine below_set ?_ (IsS71.ge HI189.out)) | exact HB.out))) : w.heap.size ≤ gb200)); have n6_ := Aside0.mk ((by rw [hg]; exact Nat.ne_of_lt (IsS71.lt (show IsS71 w _ gb189 t196 t197 t198 t199 from by repeat (first | (with_reducible first | exact HI189.out | apply IsS71.alloc | apply IsS71.drewN | apply IsS71.drew | apply IsS71.set_0 | apply IsS71.set_1 | apply IsS71.set_2 | apply IsS71.set_3) | exact HI189.out))) : gb189 ≠ gb200)); have n7_ := Aside0.mk ((by rw [hg]; exact Nat.ne_of_gt (IsS71.lt (show IsS71 w _ gb189 t196 t197 t198 t199 from by repeat (first | (with_reducible first | exact HI189.out | apply IsS71.alloc | apply IsS71.drewN | apply IsS71.drew | apply IsS71.set_0 | apply IsS71.set_1 | apply IsS71.set_2 | apply IsS71.set_3) | exact HI189.out))) : gb200 ≠ gb189)); clear HO_4; clear HI189; clear HB; have HO_4 := n0_; have HI189 := n1_; have HB := n2_; have BK200 := n3_; have GW200 := n4_; have GE200 := n5_; have NB189_200 := n6_; have NB200_189 := n7_; clear n0_ n1_ n2_ n3_ n4_ n5_ n6_ n7_; clear hb hbox hg; have hnb15 := NB200_189.out; have hnc15 := NB189_200.out; have hcz16_0 := bc5_0 BK200.out; have hcz16_1 := bc5_1 BK200.out; have hcz16_2 := bc5_2 BK200.out; have hcz16_3 := bc5_3 BK200.out; have hcz16_4 := bc5_4 BK200.out; have hfz16_0 := blk_frozen BK200.out 0; have hfz16_1 := blk_frozen BK200.out 1; have hfz16_2 := blk_frozen BK200.out 2; have hfz16_3 := blk_frozen BK200.out 3; have hfz16_4 := blk_frozen BK200.out 4; obtain ⟨HGz17, hgz17⟩ := HI189.out; have hcz17_0 := cellS71_0 HGz17; have hcz17_1 := cellS71_1 HGz17; have hcz17_2 := cellS71_2 HGz17; have hcz17_3 := cellS71_3 HGz17; have hfz17_0 := blk_frozen HGz17 0; have hfz17_1 := blk_frozen HGz17 1; have hfz17_2 := blk_frozen HGz17 2; have hfz17_3 := blk_frozen HGz17 3; clear HGz17 hgz17)))
    (try simp only [Exit.jump])
    go_ret3
    exact ⟨_, er, by (with_reducible repeat (first | apply Kd.R_alloc | apply Kd.R_drewN | apply Kd.R_drew)); exact Kd.R_mono (Kd.R_far (p := ⟨gb200, 4, none⟩) (Kd.R_far (p := ⟨gb200, 3, none⟩) (Kd.R_far (p := ⟨gb200, 2, none⟩) (Kd.R_far (p := ⟨gb200, 1, none⟩) (Kd.R_far (p := ⟨gb200, 0, none⟩) (Kd.R_mono HO_4.out (fun k_ hk => (⟨hk, hk.2⟩ : _ ∧ k_ ≠ gb200))) (fun _ hk => hk.2) (.int .i64 t190)) (fun _ hk => hk.2) (.string t191)) (fun _ hk => hk.2) (.int .i64 t192)) (fun _ hk => hk.2) (.string t193)) (fun _ hk => hk.2) (.string t194)) (fun _ hk => trivial), by repeat (first | (with_reducible first | exact HB.out | apply below_alloc | apply pw_below_drewN | apply below_drew1 | refine below_set ?_ (IsS71.ge HI189.out) | refine below_set ?_ GE200.out) | exact HB.out)⟩

/-! ### segment_Index: function 17 -/
def segment_Index.l0 : Nat → Int → List (S44) → Int → ByteArray → Int → Int → Int → Option ((List (S44)) × Int)
 | 0, _, _, _, _, _, _, _ => none
 | k + 1, x2, x9, x10, x205000, x205001, x205002, x205003 => (segment_reader_next.f k x205000 x205001 x205002 x205003).bind fun bt205 => (if bt205.2.2.2.2.2.1 = true then (if x2 = 0 then (none) else (if (Int.tmod x10 x2) = 0 then (if x9.length < 8796093022208 then (segment_Index.l0 k x2 (x9 ++ [(⟨bt205.1, x205001⟩ : S44)]) (wrap64 (x10 + 1)) bt205.2.2.2.2.2.2.1 bt205.2.2.2.2.2.2.2.1 bt205.2.2.2.2.2.2.2.2.1 bt205.2.2.2.2.2.2.2.2.2) else (none)) else (segment_Index.l0 k x2 x9 (wrap64 (x10 + 1)) bt205.2.2.2.2.2.2.1 bt205.2.2.2.2.2.2.2.1 bt205.2.2.2.2.2.2.2.2.1 bt205.2.2.2.2.2.2.2.2.2))) else (some (x9, 0)))
def segment_Index.f (k : Nat) (a0 : Int) (a1 : ByteArray) (a2 : Int) : Option ((List (S44)) × Int) := if a2 < 1 then (some (([] : List (S44)), 1)) else (segment_Index.l0 k a2 ([] : List (S44)) 0 a1 0 a0 0)
theorem segment_Index.mono_l : ∀ k, (∀ y0 y1 y2 y3 y4 y5 y6, LeO (segment_Index.l0 k y0 y1 y2 y3 y4 y5 y6) (segment_Index.l0 (k + 1) y0 y1 y2 y3 y4 y5 y6))
 | 0 => fun _ _ _ _ _ _ _ r h => by simp [segment_Index.l0] at h
 | k + 1 => by
  have ih0 := segment_Index.mono_l k
  ·intro y0 y1 y2 y3 y4 y5 y6
   unfold segment_Index.l0
   repeat' first
   | (with_reducible exact ih0 _ _ _ _ _ _ _)
   | (with_reducible exact segment_reader_next.mono _ _ _ _ _)
   | (with_reducible exact LeO.refl _)
   | (with_reducible exact LeO.none _)
   | (with_reducible refine LeO.ite ?_ ?_)
   | (with_reducible refine LeO.bind ?_ (fun _ => ?_))
   | exact ih0 _ _ _ _ _ _ _
   | exact segment_reader_next.mono _ _ _ _ _
   | exact LeO.none _
   | refine LeO.ite ?_ ?_
   | refine LeO.bind ?_ (fun _ => ?_)
theorem segment_Index.mono : ∀ a0 a1 a2 k, LeO (segment_Index.f k a0 a1 a2) (segment_Index.f (k + 1) a0 a1 a2) := by
 intro a0 a1 a2 k
 have ih0 := segment_Index.mono_l k
 unfold segment_Index.f
 repeat' first
   | (with_reducible exact ih0 _ _ _ _ _ _ _)
   | (with_reducible exact segment_reader_next.mono _ _ _ _ _)
   | (with_reducible exact LeO.refl _)
   | (with_reducible exact LeO.none _)
   | (with_reducible refine LeO.ite ?_ ?_)
   | (with_reducible refine LeO.bind ?_ (fun _ => ?_))
   | exact ih0 _ _ _ _ _ _ _
   | exact segment_reader_next.mono _ _ _ _ _
   | exact LeO.none _
   | refine LeO.ite ?_ ?_
   | refine LeO.bind ?_ (fun _ => ?_)
set_option maxHeartbeats 8000000 in
set_option maxRecDepth 100000 in
theorem segment_Index.calls (k : Nat) (a0 : Int) (a1 : ByteArray) (a2 : Int) (r1 : List (S44)) (r2 : Int) (w : World) (HT_ : TabOk w) (h : segment_Index.f k a0 a1 a2 = some (r1, r2)) :
  Calls Tryd.prog 17 #[.int .i64 a0, .string a1, .int .i64 a2] w fun e w' => ∃ v0_ : Value, e = .returned (.tuple #[v0_, .int .i64 r2]) ∧ Kd.R k44 44 w' w.heap.size (fun _ => True) v0_ r1 ∧ Below w.heap.size w w' := by
 have HT := Aside0.mk HT_
 clear HT_
 have hu69 := Tryd.underlying69
 have hu71 := Tryd.underlying71
 have hu23 := Tryd.underlying23
 have hu44 := Tryd.underlying44
 have HB := Aside0.mk (Below.refl w.heap.size w)
 have H : (if a2 < 1 then (some (([] : List (S44)), 1)) else (segment_Index.l0 k a2 ([] : List (S44)) 0 a1 0 a0 0)) = some (r1, r2) := h
 clear h
 by_cases c4 : a2 < 1
 ·rw [if_pos c4] at H
  have c4b0 : decide (a2 < 1) = true := decide_eq_true c4
  clear c4
  simp only [Option.some.injEq, Prod.mk.injEq] at H
  obtain ⟨rfl, rfl⟩ := H
  go_enter Tryd.func17, Tryd.ntmps17
  go_wp2
  go_ret2
  exact ⟨_, er, by first | exact Kd.R_nil _ _ _ _ _ | exact Kd.N_nil _ _ _ _ _ | exact Kd.V_nil _ _ _ _ _ | exact Kd.Q_nil _ _ _ _ _ | exact Kd.S_nil _ _ _ _ _, bw⟩
 ·rw [if_neg c4] at H
  have c4b0 : decide (a2 < 1) = false := decide_eq_false c4
  clear c4
  have H' := Aside0.mk H
  clear H
  go_enter Tryd.func17, Tryd.ntmps17
  go_wp2_with (first | ((with_reducible refine gate_dst (N := 8) rfl ?_); refine box_event ?hg (N := 8) ?hd (cs := #[.string (⟨#[]⟩ : ByteArray), .int .i64 0, .int .i64 0, .int .i64 0]) (t := 71) ?hr ?_; (case hd => rfl); (case hg => rfl); (case hr => first | (go_simp; done) | (go_simp; rfl)); intro gb204 hg w5 hbox hb; have n0_ := Aside0.mk (below_step bw hb); have n1_ := Aside0.mk ((show IsS71 w w5 gb204 (⟨#[]⟩ : ByteArray) 0 0 0 from ⟨hbox, by rw [hg]; exact (below_size bw)⟩)); clear HB; have HB := n0_; have HI204 := n1_; clear n0_ n1_; clear hb hbox hg; obtain ⟨HGz6, hgz6⟩ := HI204.out; have hcz6_0 := cellS71_0 HGz6; have hcz6_1 := cellS71_1 HGz6; have hcz6_2 := cellS71_2 HGz6; have hcz6_3 := cellS71_3 HGz6; have hfz6_0 := blk_frozen HGz6 0; have hfz6_1 := blk_frozen HGz6 1; have hfz6_2 := blk_frozen HGz6 2; have hfz6_3 := blk_frozen HGz6 3; clear HGz6 hgz6))
  go_loopg [9, 10] k (fun kq v9 v10 w' => ∃ (x9_1 : List (S44)) (x10_1 : Int) (x205000_1 : ByteArray) (x205001_1 : Int) (x205002_1 : Int) (x205003_1 : Int), v10 = .int .i64 x10_1 ∧ Aside0 (segment_Index.l0 kq a2 x9_1 x10_1 x205000_1 x205001_1 x205002_1 x205003_1 = some (r1, r2)) ∧ Aside0 (kq ≤ k) ∧ Aside0 (Kd.R k44 44 w' w.heap.size (fun _ => True) v9 x9_1) ∧ Aside0 (IsS71 w w' gb204 x205000_1 x205001_1 x205002_1 x205003_1) ∧ Aside0 (Below w.heap.size w w'))
  case atStart => exact ⟨(([] : List (S44))), (0), (a1), (0), (a0), (0), (by first | rfl | (simp; done) | (simp [*]; done)), H', ⟨Nat.le_refl _⟩, ⟨by first | exact Kd.R_nil _ _ _ _ _ | exact Kd.N_nil _ _ _ _ _ | exact Kd.V_nil _ _ _ _ _ | exact Kd.Q_nil _ _ _ _ _ | exact Kd.S_nil _ _ _ _ _⟩, ⟨by repeat (first | (with_reducible first | exact HI204.out | apply IsS71.alloc | apply IsS71.drewN | apply IsS71.drew | apply IsS71.set_0 | apply IsS71.set_1 | apply IsS71.set_2 | apply IsS71.set_3) | exact HI204.out)⟩, ⟨by repeat (first | (with_reducible first | exact HB.out | apply below_alloc | apply pw_below_drewN | apply below_drew1 | refine below_set ?_ (IsS71.ge HI204.out)) | exact HB.out)⟩⟩
  case round =>
   clear H'
   try clear c1
   try clear p2
   try clear c4
   try clear c4b0
   try clear hcz6_0
   try clear hcz6_1
   try clear hcz6_2
   try clear hcz6_3
   try clear hfz6_0
   try clear hfz6_1
   try clear hfz6_2
   try clear hfz6_3
   obtain ⟨x9_1, x10_1, x205000_1, x205001_1, x205002_1, x205003_1, rfl, HA, HK1, HO_9, HI204, HB⟩ := hrel
   cases gk with
   | zero => exact absurd HA.out (by simp [segment_Index.l0])
   | succ k1 =>
    have H := HA.out
    clear HA
    simp only [segment_Index.l0] at H
    replace H := Option.bind_eq_some_iff.mp H
    obtain ⟨⟨t205, t206, t207, t208, t209, t210, t211, t212, t213, t214⟩, A70, H⟩ := H
    replace H : (if t210 = true then (if a2 = 0 then (none) else (if (Int.tmod x10_1 a2) = 0 then (if x9_1.length < 8796093022208 then (segment_Index.l0 k1 a2 (x9_1 ++ [(⟨t205, x205001_1⟩ : S44)]) (wrap64 (x10_1 + 1)) t211 t212 t213 t214) else (none)) else (segment_Index.l0 k1 a2 x9_1 (wrap64 (x10_1 + 1)) t211 t212 t213 t214))) else (some (x9_1, 0))) = some (r1, r2) := H
    have A7 := Aside0.mk A70
    clear A70
    by_cases c8 : t210 = true
    ·subst c8
     have H1 : (if a2 = 0 then (none) else (if (Int.tmod x10_1 a2) = 0 then (if x9_1.length < 8796093022208 then (segment_Index.l0 k1 a2 (x9_1 ++ [(⟨t205, x205001_1⟩ : S44)]) (wrap64 (x10_1 + 1)) t211 t212 t213 t214) else (none)) else (segment_Index.l0 k1 a2 x9_1 (wrap64 (x10_1 + 1)) t211 t212 t213 t214))) = some (r1, r2) := by rw [if_pos rfl] at H; exact H
     clear H
     have H := H1
     clear H1
     by_cases c9 : a2 = 0
     ·rw [if_pos c9] at H
      exact absurd H (by simp)
     ·rw [if_neg c9] at H
      have c9b0 : (a2 == 0) = false := beq_eq_false_iff_ne.mpr c9
      have c9b1 : (a2 != 0) = true := bne_iff_ne.mpr c9
      by_cases c10 : (Int.tmod x10_1 a2) = 0
      ·rw [if_pos c10] at H
       have c10b0 : ((Int.tmod x10_1 a2) == 0) = true := beq_iff_eq.mpr c10
       have c10b1 : ((Int.tmod x10_1 a2) != 0) = false := bne_eq_false_iff_eq.mpr c10
       clear c10
       by_cases c11 : x9_1.length < 8796093022208
       ·rw [if_pos c11] at H
        have LMc11 := Aside0.mk c11
        clear c11
        obtain ⟨y216, hy216⟩ : ∃ y_ : List (S44), y_ = (x9_1 ++ [(⟨t205, x205001_1⟩ : S44)]) := ⟨_, rfl⟩
        replace H : (segment_Index.l0 k1 a2 y216 (wrap64 (x10_1 + 1)) t211 t212 t213 t214) = some (r1, r2) := by first | (rw [hy216]; with_reducible exact H) | (have H2_ := (Option.bind_some _ _).symm.trans H; rw [hy216]; with_reducible exact H2_) | (have H2_ := (Option.bind_some _ _).symm.trans H; with_reducible exact H2_) | with_reducible exact H | (rw [hy216]; exact H) | exact H
        have Ny216 := Aside0.mk hy216
        clear hy216
        have H' := Aside0.mk H
        clear H
        obtain ⟨HGz12, hgz12⟩ := HI204.out
        have hcz12_0 := cellS71_0 HGz12
        have hcz12_1 := cellS71_1 HGz12
        have hcz12_2 := cellS71_2 HGz12
        have hcz12_3 := cellS71_3 HGz12
        have hfz12_0 := blk_frozen HGz12 0
        have hfz12_1 := blk_frozen HGz12 1
        have hfz12_2 := blk_frozen HGz12 2
        have hfz12_3 := blk_frozen HGz12 3
        clear HGz12 hgz12
        go_wp2_with (first | ((with_reducible refine gate_callee (f := 30) rfl ?_); refine goesL_ (some 26) rfl rfl Tryd.func30 (by kernel_rfl) rfl #[.pointer (some ⟨gb204, 0, none⟩)] rfl am ?_; (with_reducible refine (segment_reader_next.calls k1 gb204 x205000_1 x205001_1 x205002_1 x205003_1 t205 t206 t207 t208 t209 true t211 t212 t213 t214 w _ ?side1 ?side2 tbk A7.out).mono ?_); (case side1 => repeat (first | (with_reducible first | exact HI204.out | apply IsS71.alloc | apply IsS71.drewN | apply IsS71.drew | apply IsS71.set_0 | apply IsS71.set_1 | apply IsS71.set_2 | apply IsS71.set_3) | exact HI204.out)); (case side2 => repeat (first | (with_reducible first | exact HB.out | apply below_alloc | apply pw_below_drewN | apply below_drew1 | refine below_set ?_ (IsS71.ge HI204.out)) | exact HB.out)); rintro e w13 ⟨rfl, hi, hb, hk⟩; refine ⟨_, rfl, ?_⟩; have n0_ := Aside0.mk (Kd.R_mono (Kd.R_keep (IsS71.apart (show IsS71 w _ gb204 x205000_1 x205001_1 x205002_1 x205003_1 from by repeat (first | (with_reducible first | exact HI204.out | apply IsS71.alloc | apply IsS71.drewN | apply IsS71.drew | apply IsS71.set_0 | apply IsS71.set_1 | apply IsS71.set_2 | apply IsS71.set_3) | exact HI204.out)) (by (with_reducible repeat (first | apply Kd.R_alloc | apply Kd.R_drewN | apply Kd.R_drew)); exact HO_9.out) (by decide)) hk (fun _ h => h.2)) (fun _ h => h.1)); have n1_ := Aside0.mk (hb); have n2_ := Aside0.mk (hi); clear HO_9; clear HB; clear HI204; have HO_9 := n0_; have HB := n1_; have HI204 := n2_; clear n0_ n1_ n2_; (try clear hb); (try clear hb2); (try clear hk); (try clear hi)) | ((with_reducible refine gate_dst (N := 12) rfl ?_); refine box_event ?hg (N := 12) ?hd (cs := #[.int .i64 0, .string (⟨#[]⟩ : ByteArray), .int .i64 0, .string (⟨#[]⟩ : ByteArray), .string (⟨#[]⟩ : ByteArray)]) (t := 23) ?hr ?_; (case hd => rfl); (case hg => rfl); (case hr => first | (go_simp; done) | (go_simp; rfl)); intro gb215 hg w14 hbox hb; have n0_ := Aside0.mk (Kd.R_below (by (with_reducible repeat (first | apply Kd.R_alloc | apply Kd.R_drewN | apply Kd.R_drew)); exact HO_9.out) hb); have n1_ := Aside0.mk (IsS71.below (by repeat (first | (with_reducible first | exact HI204.out | apply IsS71.alloc | apply IsS71.drewN | apply IsS71.drew | apply IsS71.set_0 | apply IsS71.set_1 | apply IsS71.set_2 | apply IsS71.set_3) | exact HI204.out)) hb); have n2_ := Aside0.mk (below_step (by repeat (first | (with_reducible first | exact HB.out | apply below_alloc | apply pw_below_drewN | apply below_drew1 | refine below_set ?_ (IsS71.ge HI204.out)) | exact HB.out)) hb); have n3_ := Aside0.mk (hbox); have n4_ := Aside0.mk ((by rw [hg]; exact (below_size (by repeat (first | (with_reducible first | exact HB.out | apply below_alloc | apply pw_below_drewN | apply below_drew1 | refine below_set ?_ (IsS71.ge HI204.out)) | exact HB.out))) : w.heap.size ≤ gb215)); have n5_ := Aside0.mk ((by rw [hg]; exact (below_size (by repeat (first | (with_reducible first | exact HB.out | apply below_alloc | apply pw_below_drewN | apply below_drew1 | refine below_set ?_ (IsS71.ge HI204.out)) | exact HB.out))) : w.heap.size ≤ gb215)); have n6_ := Aside0.mk ((by rw [hg]; exact Nat.ne_of_lt (IsS71.lt (show IsS71 w _ gb204 t211 t212 t213 t214 from by repeat (first | (with_reducible first | exact HI204.out | apply IsS71.alloc | apply IsS71.drewN | apply IsS71.drew | apply IsS71.set_0 | apply IsS71.set_1 | apply IsS71.set_2 | apply IsS71.set_3) | exact HI204.out))) : gb204 ≠ gb215)); have n7_ := Aside0.mk ((by rw [hg]; exact Nat.ne_of_gt (IsS71.lt (show IsS71 w _ gb204 t211 t212 t213 t214 from by repeat (first | (with_reducible first | exact HI204.out | apply IsS71.alloc | apply IsS71.drewN | apply IsS71.drew | apply IsS71.set_0 | apply IsS71.set_1 | apply IsS71.set_2 | apply IsS71.set_3) | exact HI204.out))) : gb215 ≠ gb204)); clear HO_9; clear HI204; clear HB; have HO_9 := n0_; have HI204 := n1_; have HB := n2_; have BK215 := n3_; have GW215 := n4_; have GE215 := n5_; have NB204_215 := n6_; have NB215_204 := n7_; clear n0_ n1_ n2_ n3_ n4_ n5_ n6_ n7_; clear hb hbox hg; have hnb15 := NB215_204.out; have hnc15 := NB204_215.out; have hcz16_0 := bc5_0 BK215.out; have hcz16_1 := bc5_1 BK215.out; have hcz16_2 := bc5_2 BK215.out; have hcz16_3 := bc5_3 BK215.out; have hcz16_4 := bc5_4 BK215.out; have hfz16_0 := blk_frozen BK215.out 0; have hfz16_1 := blk_frozen BK215.out 1; have hfz16_2 := blk_frozen BK215.out 2; have hfz16_3 := blk_frozen BK215.out 3; have hfz16_4 := blk_frozen BK215.out 4) | ((with_reducible refine gate_builtin (b := .append) (xs := #[.tmp 36, .tmp 41]) rfl ?_); at_builtin; refine Kd.R_append k44 (w0 := w) w.heap.size rfl (.tmp 36) (.tmp 41) 38 44 (.agg #[(.int .i64 0), (.int .i64 0)]) 16 rfl Tryd.underlying38 info44 rfl (by decide) (by omega) u9 x9_1 (⟨t205, x205001_1⟩ : S44) [.int .i64 t205, .int .i64 x205001_1] (fun _ => True) (fun _ => False) rfl (by first | (go_simp; done) | (go_simp; rfl)) ?aP (fun _ hk => hk.elim) ?aF ?aO ?aB ?aS ?aL ?_; (case aP => exact k44_mkM _ _ _ (⟨t205, x205001_1⟩ : S44)); (case aB => exact (by repeat (first | (with_reducible first | exact HB.out | apply below_alloc | apply pw_below_drewN | apply below_drew1 | refine below_set ?_ (IsS71.ge HI204.out) | refine below_set ?_ GE215.out) | exact HB.out))); (case aF => exact (fun _ _ => trivial)); (case aO => exact (by (with_reducible repeat (first | apply Kd.R_alloc | apply Kd.R_drewN | apply Kd.R_drew)); exact Kd.R_mono (Kd.R_far (p := ⟨gb215, 4, none⟩) (Kd.R_far (p := ⟨gb215, 3, none⟩) (Kd.R_far (p := ⟨gb215, 2, none⟩) (Kd.R_far (p := ⟨gb215, 1, none⟩) (Kd.R_far (p := ⟨gb215, 0, none⟩) (Kd.R_types HO_9.out BK215.out (by decide)) (fun _ hk => hk.2) (.int .i64 t205)) (fun _ hk => hk.2) (.string t206)) (fun _ hk => hk.2) (.int .i64 t207)) (fun _ hk => hk.2) (.string t208)) (fun _ hk => hk.2) (.string t209)) (fun _ hk => trivial))); (case aS => exact (below_size (by repeat (first | (with_reducible first | exact HB.out | apply below_alloc | apply pw_below_drewN | apply below_drew1 | refine below_set ?_ (IsS71.ge HI204.out) | refine below_set ?_ GE215.out) | exact HB.out)))); (case aL => have := LMc11.out; omega); intro v217 w17 ho hb hg hat; rw [← Ny216.out] at ho; have n0_ := Aside0.mk (IsS71.grown (show IsS71 w _ gb204 t211 t212 t213 t214 from by repeat (first | (with_reducible first | exact HI204.out | apply IsS71.alloc | apply IsS71.drewN | apply IsS71.drew | apply IsS71.set_0 | apply IsS71.set_1 | apply IsS71.set_2 | apply IsS71.set_3 | refine IsS71.far ?_ NB204_215.out _) | exact HI204.out)) hg (IsS71.own_ne HI204.out HO_9.out (by decide))); have n1_ := Aside0.mk (blk_grown (g := gb215) (o := .cells #[.int .i64 t205, .string t206, .int .i64 t207, .string t208, .string t209] 23 (0, 0)) (by (with_reducible repeat (first | refine blk_drewN ?_ _ | refine blk_drew ?_ | refine blk_alloc ?_ _)); refine blk_put (cs := #[.int .i64 t205, .string t206, .int .i64 t207, .string t208, .string (⟨#[]⟩ : ByteArray)]) ?_ 4 _ rfl; (with_reducible repeat (first | refine blk_drewN ?_ _ | refine blk_drew ?_ | refine blk_alloc ?_ _)); refine blk_put (cs := #[.int .i64 t205, .string t206, .int .i64 t207, .string (⟨#[]⟩ : ByteArray), .string (⟨#[]⟩ : ByteArray)]) ?_ 3 _ rfl; (with_reducible repeat (first | refine blk_drewN ?_ _ | refine blk_drew ?_ | refine blk_alloc ?_ _)); refine blk_put (cs := #[.int .i64 t205, .string t206, .int .i64 0, .string (⟨#[]⟩ : ByteArray), .string (⟨#[]⟩ : ByteArray)]) ?_ 2 _ rfl; (with_reducible repeat (first | refine blk_drewN ?_ _ | refine blk_drew ?_ | refine blk_alloc ?_ _)); refine blk_put (cs := #[.int .i64 t205, .string (⟨#[]⟩ : ByteArray), .int .i64 0, .string (⟨#[]⟩ : ByteArray), .string (⟨#[]⟩ : ByteArray)]) ?_ 1 _ rfl; (with_reducible repeat (first | refine blk_drewN ?_ _ | refine blk_drew ?_ | refine blk_alloc ?_ _)); refine blk_put (cs := #[.int .i64 0, .string (⟨#[]⟩ : ByteArray), .int .i64 0, .string (⟨#[]⟩ : ByteArray), .string (⟨#[]⟩ : ByteArray)]) ?_ 0 _ rfl; (with_reducible repeat (first | refine blk_drewN ?_ _ | refine blk_drew ?_ | refine blk_alloc ?_ _)); exact BK215.out) hg (Kd.R_ne HO_9.out BK215.out (by decide))); have n2_ := Aside0.mk (hb); have n3_ := Aside0.mk (ho); clear HI204; clear BK215; clear HB; clear HO_9; have HI204 := n0_; have BK215 := n1_; have HB := n2_; have HO218 := n3_; clear n0_ n1_ n2_ n3_; clear ho hb hg hat))
        go_roundg k1
        case measure => have := HK1.out; omega
        case rel => exact ⟨(y216), (wrap64 (x10_1 + 1)), (t211), (t212), (t213), (t214), (by first | rfl | (simp; done) | (simp [*]; done)), H', ⟨by have := HK1.out; omega⟩, ⟨by (with_reducible repeat (first | apply Kd.R_alloc | apply Kd.R_drewN | apply Kd.R_drew)); exact HO218.out⟩, ⟨by repeat (first | (with_reducible first | exact HI204.out | apply IsS71.alloc | apply IsS71.drewN | apply IsS71.drew | apply IsS71.set_0 | apply IsS71.set_1 | apply IsS71.set_2 | apply IsS71.set_3 | refine IsS71.far ?_ NB204_215.out _) | exact HI204.out)⟩, ⟨by repeat (first | (with_reducible first | exact HB.out | apply below_alloc | apply pw_below_drewN | apply below_drew1 | refine below_set ?_ (IsS71.ge HI204.out) | refine below_set ?_ GE215.out) | exact HB.out)⟩⟩
       ·rw [if_neg c11] at H
        exact absurd H (by simp)
      ·rw [if_neg c10] at H
       have c10b0 : ((Int.tmod x10_1 a2) == 0) = false := beq_eq_false_iff_ne.mpr c10
       have c10b1 : ((Int.tmod x10_1 a2) != 0) = true := bne_iff_ne.mpr c10
       have H' := Aside0.mk H
       clear H
       obtain ⟨HGz18, hgz18⟩ := HI204.out
       have hcz18_0 := cellS71_0 HGz18
       have hcz18_1 := cellS71_1 HGz18
       have hcz18_2 := cellS71_2 HGz18
       have hcz18_3 := cellS71_3 HGz18
       have hfz18_0 := blk_frozen HGz18 0
       have hfz18_1 := blk_frozen HGz18 1
       have hfz18_2 := blk_frozen HGz18 2
       have hfz18_3 := blk_frozen HGz18 3
       clear HGz18 hgz18
       go_wp2_with (first | ((with_reducible refine gate_callee (f := 30) rfl ?_); refine goesL_ (some 26) rfl rfl Tryd.func30 (by kernel_rfl) rfl #[.pointer (some ⟨gb204, 0, none⟩)] rfl am ?_; (with_reducible refine (segment_reader_next.calls k1 gb204 x205000_1 x205001_1 x205002_1 x205003_1 t205 t206 t207 t208 t209 true t211 t212 t213 t214 w _ ?side1 ?side2 tbk A7.out).mono ?_); (case side1 => repeat (first | (with_reducible first | exact HI204.out | apply IsS71.alloc | apply IsS71.drewN | apply IsS71.drew | apply IsS71.set_0 | apply IsS71.set_1 | apply IsS71.set_2 | apply IsS71.set_3) | exact HI204.out)); (case side2 => repeat (first | (with_reducible first | exact HB.out | apply below_alloc | apply pw_below_drewN | apply below_drew1 | refine below_set ?_ (IsS71.ge HI204.out)) | exact HB.out)); rintro e w19 ⟨rfl, hi, hb, hk⟩; refine ⟨_, rfl, ?_⟩; have n0_ := Aside0.mk (Kd.R_mono (Kd.R_keep (IsS71.apart (show IsS71 w _ gb204 x205000_1 x205001_1 x205002_1 x205003_1 from by repeat (first | (with_reducible first | exact HI204.out | apply IsS71.alloc | apply IsS71.drewN | apply IsS71.drew | apply IsS71.set_0 | apply IsS71.set_1 | apply IsS71.set_2 | apply IsS71.set_3) | exact HI204.out)) (by (with_reducible repeat (first | apply Kd.R_alloc | apply Kd.R_drewN | apply Kd.R_drew)); exact HO_9.out) (by decide)) hk (fun _ h => h.2)) (fun _ h => h.1)); have n1_ := Aside0.mk (hb); have n2_ := Aside0.mk (hi); clear HO_9; clear HB; clear HI204; have HO_9 := n0_; have HB := n1_; have HI204 := n2_; clear n0_ n1_ n2_; (try clear hb); (try clear hb2); (try clear hk); (try clear hi)) | ((with_reducible refine gate_dst (N := 12) rfl ?_); refine box_event ?hg (N := 12) ?hd (cs := #[.int .i64 0, .string (⟨#[]⟩ : ByteArray), .int .i64 0, .string (⟨#[]⟩ : ByteArray), .string (⟨#[]⟩ : ByteArray)]) (t := 23) ?hr ?_; (case hd => rfl); (case hg => rfl); (case hr => first | (go_simp; done) | (go_simp; rfl)); intro gb215 hg w20 hbox hb; have n0_ := Aside0.mk (Kd.R_below (by (with_reducible repeat (first | apply Kd.R_alloc | apply Kd.R_drewN | apply Kd.R_drew)); exact HO_9.out) hb); have n1_ := Aside0.mk (IsS71.below (by repeat (first | (with_reducible first | exact HI204.out | apply IsS71.alloc | apply IsS71.drewN | apply IsS71.drew | apply IsS71.set_0 | apply IsS71.set_1 | apply IsS71.set_2 | apply IsS71.set_3) | exact HI204.out)) hb); have n2_ := Aside0.mk (below_step (by repeat (first | (with_reducible first | exact HB.out | apply below_alloc | apply pw_below_drewN | apply below_drew1 | refine below_set ?_ (IsS71.ge HI204.out)) | exact HB.out)) hb); have n3_ := Aside0.mk (hbox); have n4_ := Aside0.mk ((by rw [hg]; exact (below_size (by repeat (first | (with_reducible first | exact HB.out | apply below_alloc | apply pw_below_drewN | apply below_drew1 | refine below_set ?_ (IsS71.ge HI204.out)) | exact HB.out))) : w.heap.size ≤ gb215)); have n5_ := Aside0.mk ((by rw [hg]; exact (below_size (by repeat (first | (with_reducible first | exact HB.out | apply below_alloc | apply pw_below_drewN | apply below_drew1 | refine below_set ?_ (IsS71.ge HI204.out)) | exact HB.out))) : w.heap.size ≤ gb215)); have n6_ := Aside0.mk ((by rw [hg]; exact Nat.ne_of_lt (IsS71.lt (show IsS71 w _ gb204 t211 t212 t213 t214 from by repeat (first | (with_reducible first | exact HI204.out | apply IsS71.alloc | apply IsS71.drewN | apply IsS71.drew | apply IsS71.set_0 | apply IsS71.set_1 | apply IsS71.set_2 | apply IsS71.set_3) | exact HI204.out))) : gb204 ≠ gb215)); have n7_ := Aside0.mk ((by rw [hg]; exact Nat.ne_of_gt (IsS71.lt (show IsS71 w _ gb204 t211 t212 t213 t214 from by repeat (first | (with_reducible first | exact HI204.out | apply IsS71.alloc | apply IsS71.drewN | apply IsS71.drew | apply IsS71.set_0 | apply IsS71.set_1 | apply IsS71.set_2 | apply IsS71.set_3) | exact HI204.out))) : gb215 ≠ gb204)); clear HO_9; clear HI204; clear HB; have HO_9 := n0_; have HI204 := n1_; have HB := n2_; have BK215 := n3_; have GW215 := n4_; have GE215 := n5_; have NB204_215 := n6_; have NB215_204 := n7_; clear n0_ n1_ n2_ n3_ n4_ n5_ n6_ n7_; clear hb hbox hg; have hnb21 := NB215_204.out; have hnc21 := NB204_215.out; have hcz22_0 := bc5_0 BK215.out; have hcz22_1 := bc5_1 BK215.out; have hcz22_2 := bc5_2 BK215.out; have hcz22_3 := bc5_3 BK215.out; have hcz22_4 := bc5_4 BK215.out; have hfz22_0 := blk_frozen BK215.out 0; have hfz22_1 := blk_frozen BK215.out 1; have hfz22_2 := blk_frozen BK215.out 2; have hfz22_3 := blk_frozen BK215.out 3; have hfz22_4 := blk_frozen BK215.out 4))
       go_roundg k1
       case measure => have := HK1.out; omega
       case rel => exact ⟨(x9_1), (wrap64 (x10_1 + 1)), (t211), (t212), (t213), (t214), (by first | rfl | (simp; done) | (simp [*]; done)), H', ⟨by have := HK1.out; omega⟩, ⟨by (with_reducible repeat (first | apply Kd.R_alloc | apply Kd.R_drewN | apply Kd.R_drew)); exact Kd.R_mono (Kd.R_far (p := ⟨gb215, 4, none⟩) (Kd.R_far (p := ⟨gb215, 3, none⟩) (Kd.R_far (p := ⟨gb215, 2, none⟩) (Kd.R_far (p := ⟨gb215, 1, none⟩) (Kd.R_far (p := ⟨gb215, 0, none⟩) (Kd.R_types HO_9.out BK215.out (by decide)) (fun _ hk => hk.2) (.int .i64 t205)) (fun _ hk => hk.2) (.string t206)) (fun _ hk => hk.2) (.int .i64 t207)) (fun _ hk => hk.2) (.string t208)) (fun _ hk => hk.2) (.string t209)) (fun _ hk => trivial)⟩, ⟨by repeat (first | (with_reducible first | exact HI204.out | apply IsS71.alloc | apply IsS71.drewN | apply IsS71.drew | apply IsS71.set_0 | apply IsS71.set_1 | apply IsS71.set_2 | apply IsS71.set_3 | refine IsS71.far ?_ NB204_215.out _) | exact HI204.out)⟩, ⟨by repeat (first | (with_reducible first | exact HB.out | apply below_alloc | apply pw_below_drewN | apply below_drew1 | refine below_set ?_ (IsS71.ge HI204.out) | refine below_set ?_ GE215.out) | exact HB.out)⟩⟩
    ·replace c8 := Bool.eq_false_iff.mpr c8
     subst c8
     have H1 : (some (x9_1, 0)) = some (r1, r2) := by rw [if_neg (show ¬ (false = true) by decide)] at H; exact H
     clear H
     have H := H1
     clear H1
     simp only [Option.some.injEq, Prod.mk.injEq] at H
     obtain ⟨rfl, rfl⟩ := H
     obtain ⟨HGz23, hgz23⟩ := HI204.out
     have hcz23_0 := cellS71_0 HGz23
     have hcz23_1 := cellS71_1 HGz23
     have hcz23_2 := cellS71_2 HGz23
     have hcz23_3 := cellS71_3 HGz23
     have hfz23_0 := blk_frozen HGz23 0
     have hfz23_1 := blk_frozen HGz23 1
     have hfz23_2 := blk_frozen HGz23 2
     have hfz23_3 := blk_frozen HGz23 3
     clear HGz23 hgz23
     go_wp2_with (first | ((with_reducible refine gate_callee (f := 30) rfl ?_); refine goesL_ (some 26) rfl rfl Tryd.func30 (by kernel_rfl) rfl #[.pointer (some ⟨gb204, 0, none⟩)] rfl am ?_; (with_reducible refine (segment_reader_next.calls k1 gb204 x205000_1 x205001_1 x205002_1 x205003_1 t205 t206 t207 t208 t209 false t211 t212 t213 t214 w _ ?side1 ?side2 tbk A7.out).mono ?_); (case side1 => repeat (first | (with_reducible first | exact HI204.out | apply IsS71.alloc | apply IsS71.drewN | apply IsS71.drew | apply IsS71.set_0 | apply IsS71.set_1 | apply IsS71.set_2 | apply IsS71.set_3) | exact HI204.out)); (case side2 => repeat (first | (with_reducible first | exact HB.out | apply below_alloc | apply pw_below_drewN | apply below_drew1 | refine below_set ?_ (IsS71.ge HI204.out)) | exact HB.out)); rintro e w24 ⟨rfl, hi, hb, hk⟩; refine ⟨_, rfl, ?_⟩; have n0_ := Aside0.mk (Kd.R_mono (Kd.R_keep (IsS71.apart (show IsS71 w _ gb204 x205000_1 x205001_1 x205002_1 x205003_1 from by repeat (first | (with_reducible first | exact HI204.out | apply IsS71.alloc | apply IsS71.drewN | apply IsS71.drew | apply IsS71.set_0 | apply IsS71.set_1 | apply IsS71.set_2 | apply IsS71.set_3) | exact HI204.out)) (by (with_reducible repeat (first | apply Kd.R_alloc | apply Kd.R_drewN | apply Kd.R_drew)); exact HO_9.out) (by decide)) hk (fun _ h => h.2)) (fun _ h => h.1)); have n1_ := Aside0.mk (hb); have n2_ := Aside0.mk (hi); clear HO_9; clear HB; clear HI204; have HO_9 := n0_; have HB := n1_; have HI204 := n2_; clear n0_ n1_ n2_; (try clear hb); (try clear hb2); (try clear hk); (try clear hi)) | ((with_reducible refine gate_dst (N := 12) rfl ?_); refine box_event ?hg (N := 12) ?hd (cs := #[.int .i64 0, .string (⟨#[]⟩ : ByteArray), .int .i64 0, .string (⟨#[]⟩ : ByteArray), .string (⟨#[]⟩ : ByteArray)]) (t := 23) ?hr ?_; (case hd => rfl); (case hg => rfl); (case hr => first | (go_simp; done) | (go_simp; rfl)); intro gb215 hg w25 hbox hb; have n0_ := Aside0.mk (Kd.R_below (by (with_reducible repeat (first | apply Kd.R_alloc | apply Kd.R_drewN | apply Kd.R_drew)); exact HO_9.out) hb); have n1_ := Aside0.mk (IsS71.below (by repeat (first | (with_reducible first | exact HI204.out | apply IsS71.alloc | apply IsS71.drewN | apply IsS71.drew | apply IsS71.set_0 | apply IsS71.set_1 | apply IsS71.set_2 | apply IsS71.set_3) | exact HI204.out)) hb); have n2_ := Aside0.mk (below_step (by repeat (first | (with_reducible first | exact HB.out | apply below_alloc | apply pw_below_drewN | apply below_drew1 | refine below_set ?_ (IsS71.ge HI204.out)) | exact HB.out)) hb); have n3_ := Aside0.mk (hbox); have n4_ := Aside0.mk ((by rw [hg]; exact (below_size (by repeat (first | (with_reducible first | exact HB.out | apply below_alloc | apply pw_below_drewN | apply below_drew1 | refine below_set ?_ (IsS71.ge HI204.out)) | exact HB.out))) : w.heap.size ≤ gb215)); have n5_ := Aside0.mk ((by rw [hg]; exact (below_size (by repeat (first | (with_reducible first | exact HB.out | apply below_alloc | apply pw_below_drewN | apply below_drew1 | refine below_set ?_ (IsS71.ge HI204.out)) | exact HB.out))) : w.heap.size ≤ gb215)); have n6_ := Aside0.mk ((by rw [hg]; exact Nat.ne_of_lt (IsS71.lt (show IsS71 w _ gb204 t211 t212 t213 t214 from by repeat (first | (with_reducible first | exact HI204.out | apply IsS71.alloc | apply IsS71.drewN | apply IsS71.drew | apply IsS71.set_0 | apply IsS71.set_1 | apply IsS71.set_2 | apply IsS71.set_3) | exact HI204.out))) : gb204 ≠ gb215)); have n7_ := Aside0.mk ((by rw [hg]; exact Nat.ne_of_gt (IsS71.lt (show IsS71 w _ gb204 t211 t212 t213 t214 from by repeat (first | (with_reducible first | exact HI204.out | apply IsS71.alloc | apply IsS71.drewN | apply IsS71.drew | apply IsS71.set_0 | apply IsS71.set_1 | apply IsS71.set_2 | apply IsS71.set_3) | exact HI204.out))) : gb215 ≠ gb204)); clear HO_9; clear HI204; clear HB; have HO_9 := n0_; have HI204 := n1_; have HB := n2_; have BK215 := n3_; have GW215 := n4_; have GE215 := n5_; have NB204_215 := n6_; have NB215_204 := n7_; clear n0_ n1_ n2_ n3_ n4_ n5_ n6_ n7_; clear hb hbox hg; have hnb26 := NB215_204.out; have hnc26 := NB204_215.out; have hcz27_0 := bc5_0 BK215.out; have hcz27_1 := bc5_1 BK215.out; have hcz27_2 := bc5_2 BK215.out; have hcz27_3 := bc5_3 BK215.out; have hcz27_4 := bc5_4 BK215.out; have hfz27_0 := blk_frozen BK215.out 0; have hfz27_1 := blk_frozen BK215.out 1; have hfz27_2 := blk_frozen BK215.out 2; have hfz27_3 := blk_frozen BK215.out 3; have hfz27_4 := blk_frozen BK215.out 4))
     go_ret2
     exact ⟨_, er, by (with_reducible repeat (first | apply Kd.R_alloc | apply Kd.R_drewN | apply Kd.R_drew)); exact Kd.R_mono (Kd.R_far (p := ⟨gb215, 4, none⟩) (Kd.R_far (p := ⟨gb215, 3, none⟩) (Kd.R_far (p := ⟨gb215, 2, none⟩) (Kd.R_far (p := ⟨gb215, 1, none⟩) (Kd.R_far (p := ⟨gb215, 0, none⟩) (Kd.R_types HO_9.out BK215.out (by decide)) (fun _ hk => hk.2) (.int .i64 t205)) (fun _ hk => hk.2) (.string t206)) (fun _ hk => hk.2) (.int .i64 t207)) (fun _ hk => hk.2) (.string t208)) (fun _ hk => hk.2) (.string t209)) (fun _ hk => trivial), by repeat (first | (with_reducible first | exact HB.out | apply below_alloc | apply pw_below_drewN | apply below_drew1 | refine below_set ?_ (IsS71.ge HI204.out) | refine below_set ?_ GE215.out) | exact HB.out)⟩

-- NOT PRINTED: function 31 (sort_Search)

/-! ### segment_From: function 21 -/
def segment_From.l0 : Nat → Int → Int → List (S23) → ByteArray → Int → Int → Int → Option ((List (S23)))
 | 0, _, _, _, _, _, _, _ => none
 | k + 1, x3, x4, x13, x221000, x221001, x221002, x221003 => if (x13.length : Int) < x4 then ((segment_reader_next.f k x221000 x221001 x221002 x221003).bind fun bt221 => (if bt221.2.2.2.2.2.1 = true then (if bt221.1 ≥ x3 then (if x13.length < 2199023255552 then (segment_From.l0 k x3 x4 (x13 ++ [(⟨bt221.1, bt221.2.1, bt221.2.2.1, bt221.2.2.2.1, bt221.2.2.2.2.1⟩ : S23)]) bt221.2.2.2.2.2.2.1 bt221.2.2.2.2.2.2.2.1 bt221.2.2.2.2.2.2.2.2.1 bt221.2.2.2.2.2.2.2.2.2) else (none)) else (segment_From.l0 k x3 x4 x13 bt221.2.2.2.2.2.2.1 bt221.2.2.2.2.2.2.2.1 bt221.2.2.2.2.2.2.2.2.1 bt221.2.2.2.2.2.2.2.2.2)) else (some x13))) else (some x13)
def segment_From.f (k : Nat) (a0 : Int) (a1 : ByteArray) (l2 : List (S44)) (a3 : Int) (a4 : Int) : Option ((List (S23))) := (segment_Find.f l2 a3).bind fun t219 => (if t219 < 0 then (some ([] : List (S23))) else (if t219 > (a1.size : Int) then (some ([] : List (S23))) else (segment_From.l0 k a3 a4 ([] : List (S23)) a1 t219 a0 0)))
theorem segment_From.mono_l : ∀ k, (∀ y0 y1 y2 y3 y4 y5 y6, LeO (segment_From.l0 k y0 y1 y2 y3 y4 y5 y6) (segment_From.l0 (k + 1) y0 y1 y2 y3 y4 y5 y6))
 | 0 => fun _ _ _ _ _ _ _ r h => by simp [segment_From.l0] at h
 | k + 1 => by
  have ih0 := segment_From.mono_l k
  ·intro y0 y1 y2 y3 y4 y5 y6
   unfold segment_From.l0
   repeat' first
   | (with_reducible exact ih0 _ _ _ _ _ _ _)
   | (with_reducible exact segment_reader_next.mono _ _ _ _ _)
   | (with_reducible exact LeO.refl _)
   | (with_reducible exact LeO.none _)
   | (with_reducible refine LeO.ite ?_ ?_)
   | (with_reducible refine LeO.bind ?_ (fun _ => ?_))
   | exact ih0 _ _ _ _ _ _ _
   | exact segment_reader_next.mono _ _ _ _ _
   | exact LeO.none _
   | refine LeO.ite ?_ ?_
   | refine LeO.bind ?_ (fun _ => ?_)
theorem segment_From.mono : ∀ a0 a1 a2 a3 a4 k, LeO (segment_From.f k a0 a1 a2 a3 a4) (segment_From.f (k + 1) a0 a1 a2 a3 a4) := by
 intro a0 a1 a2 a3 a4 k
 have ih0 := segment_From.mono_l k
 unfold segment_From.f
 repeat' first
   | (with_reducible exact ih0 _ _ _ _ _ _ _)
   | (with_reducible exact segment_reader_next.mono _ _ _ _ _)
   | (with_reducible exact LeO.refl _)
   | (with_reducible exact LeO.none _)
   | (with_reducible refine LeO.ite ?_ ?_)
   | (with_reducible refine LeO.bind ?_ (fun _ => ?_))
   | exact ih0 _ _ _ _ _ _ _
   | exact segment_reader_next.mono _ _ _ _ _
   | exact LeO.none _
   | refine LeO.ite ?_ ?_
   | refine LeO.bind ?_ (fun _ => ?_)
set_option maxHeartbeats 8000000 in
set_option maxRecDepth 100000 in
theorem segment_From.calls (k : Nat) (a0 : Int) (a1 : ByteArray) (A2 : Option Addr) (c2 : Nat) (l2 : List (S44)) (a3 : Int) (a4 : Int) (r : List (S23)) (w : World) (hr2 : Kd.C k44 w A2 l2.length l2) (hc2 : l2.length ≤ c2) (HT_ : TabOk w) (h : segment_From.f k a0 a1 l2 a3 a4 = some r) :
  Calls Tryd.prog 21 #[.int .i64 a0, .string a1, .slice A2 l2.length c2, .int .i64 a3, .int .i64 a4] w fun e w' => ∃ v0_ : Value, e = .returned (v0_) ∧ Kd.R k23 23 w' w.heap.size (fun _ => True) v0_ r ∧ Below w.heap.size w w' := by
 have HT := Aside0.mk HT_
 clear HT_
 have hu69 := Tryd.underlying69
 have hu71 := Tryd.underlying71
 have hu23 := Tryd.underlying23
 have HR2 := Aside0.mk hr2
 have HC2 := Aside0.mk hc2
 clear hr2 hc2
 have HB := Aside0.mk (Below.refl w.heap.size w)
 have H : ((segment_Find.f l2 a3).bind fun t219 => (if t219 < 0 then (some ([] : List (S23))) else (if t219 > (a1.size : Int) then (some ([] : List (S23))) else (segment_From.l0 k a3 a4 ([] : List (S23)) a1 t219 a0 0)))) = some r := h
 clear h
 replace H := Option.bind_eq_some_iff.mp H
 obtain ⟨t219, A60, H⟩ := H
 replace H : (if t219 < 0 then (some ([] : List (S23))) else (if t219 > (a1.size : Int) then (some ([] : List (S23))) else (segment_From.l0 k a3 a4 ([] : List (S23)) a1 t219 a0 0))) = some r := H
 have A6 := Aside0.mk A60
 clear A60
 by_cases c7 : t219 < 0
 ·rw [if_pos c7] at H
  have c7b0 : decide (t219 < 0) = true := decide_eq_true c7
  clear c7
  obtain rfl := Option.some.inj H
  go_enter Tryd.func21, Tryd.ntmps21
  go_wp2_with (first | ((with_reducible refine gate_callee (f := 19) rfl ?_); refine goesL_ (some 18) rfl rfl Tryd.func19 (by kernel_rfl) rfl #[.slice A2 l2.length c2, .int .i64 a3] rfl am ?_; (with_reducible refine (segment_Find.calls _ _ l2 a3 t219 _ ?side1 ?side2 A6.out).mono ?_); (case side1 => repeat (first | exact HR2.out | (with_reducible refine Kd.C_alloc ?_ _) | (with_reducible refine Kd.C_drewN ?_ _) | (with_reducible refine Kd.C_drew ?_))); (case side2 => exact HC2.out); rintro e w8 ⟨rfl, hb⟩; refine ⟨_, rfl, ?_⟩; have n0_ := Aside0.mk (below_step bw hb); clear HB; have HB := n0_; clear n0_; (try clear hb); (try clear hb2); (try clear hk); (try clear hi)))
  go_ret
  exact ⟨_, er, by first | exact Kd.R_nil _ _ _ _ _ | exact Kd.N_nil _ _ _ _ _ | exact Kd.V_nil _ _ _ _ _ | exact Kd.Q_nil _ _ _ _ _ | exact Kd.S_nil _ _ _ _ _, bw⟩
 ·rw [if_neg c7] at H
  have c7b0 : decide (t219 < 0) = false := decide_eq_false c7
  clear c7
  by_cases c9 : t219 > (a1.size : Int)
  ·rw [if_pos c9] at H
   have c9b0 : decide ((a1.size : Int) < t219) = true := decide_eq_true c9
   clear c9
   obtain rfl := Option.some.inj H
   go_enter Tryd.func21, Tryd.ntmps21
   go_wp2_with (first | ((with_reducible refine gate_callee (f := 19) rfl ?_); refine goesL_ (some 18) rfl rfl Tryd.func19 (by kernel_rfl) rfl #[.slice A2 l2.length c2, .int .i64 a3] rfl am ?_; (with_reducible refine (segment_Find.calls _ _ l2 a3 t219 _ ?side1 ?side2 A6.out).mono ?_); (case side1 => repeat (first | exact HR2.out | (with_reducible refine Kd.C_alloc ?_ _) | (with_reducible refine Kd.C_drewN ?_ _) | (with_reducible refine Kd.C_drew ?_))); (case side2 => exact HC2.out); rintro e w10 ⟨rfl, hb⟩; refine ⟨_, rfl, ?_⟩; have n0_ := Aside0.mk (below_step bw hb); clear HB; have HB := n0_; clear n0_; (try clear hb); (try clear hb2); (try clear hk); (try clear hi)))
   go_ret
   exact ⟨_, er, by first | exact Kd.R_nil _ _ _ _ _ | exact Kd.N_nil _ _ _ _ _ | exact Kd.V_nil _ _ _ _ _ | exact Kd.Q_nil _ _ _ _ _ | exact Kd.S_nil _ _ _ _ _, bw⟩
  ·rw [if_neg c9] at H
   have c9b0 : decide ((a1.size : Int) < t219) = false := decide_eq_false c9
   clear c9
   have H' := Aside0.mk H
   clear H
   go_enter Tryd.func21, Tryd.ntmps21
   go_wp2_with (first | ((with_reducible refine gate_callee (f := 19) rfl ?_); refine goesL_ (some 18) rfl rfl Tryd.func19 (by kernel_rfl) rfl #[.slice A2 l2.length c2, .int .i64 a3] rfl am ?_; (with_reducible refine (segment_Find.calls _ _ l2 a3 t219 _ ?side1 ?side2 A6.out).mono ?_); (case side1 => repeat (first | exact HR2.out | (with_reducible refine Kd.C_alloc ?_ _) | (with_reducible refine Kd.C_drewN ?_ _) | (with_reducible refine Kd.C_drew ?_))); (case side2 => exact HC2.out); rintro e w11 ⟨rfl, hb⟩; refine ⟨_, rfl, ?_⟩; have n0_ := Aside0.mk (below_step bw hb); clear HB; have HB := n0_; clear n0_; (try clear hb); (try clear hb2); (try clear hk); (try clear hi)) | ((with_reducible refine gate_dst (N := 12) rfl ?_); (try (refine gate_guard (by rfl) ?_; dsimp only)); refine box_event ?hg (N := 12) ?hd (cs := #[.string (⟨#[]⟩ : ByteArray), .int .i64 0, .int .i64 0, .int .i64 0]) (t := 71) ?hr ?_; (case hd => rfl); (case hg => rfl); (case hr => first | (go_simp; done) | (go_simp; rfl)); intro gb220 hg w12 hbox hb; have n0_ := Aside0.mk (below_step bw hb); have n1_ := Aside0.mk ((show IsS71 w w12 gb220 (⟨#[]⟩ : ByteArray) 0 0 0 from ⟨hbox, by rw [hg]; exact (below_size bw)⟩)); clear HB; have HB := n0_; have HI220 := n1_; clear n0_ n1_; clear hb hbox hg; obtain ⟨HGz13, hgz13⟩ := HI220.out; have hcz13_0 := cellS71_0 HGz13; have hcz13_1 := cellS71_1 HGz13; have hcz13_2 := cellS71_2 HGz13; have hcz13_3 := cellS71_3 HGz13; have hfz13_0 := blk_frozen HGz13 0; have hfz13_1 := blk_frozen HGz13 1; have hfz13_2 := blk_frozen HGz13 2; have hfz13_3 := blk_frozen HGz13 3; clear HGz13 hgz13))
   go_loopg [13] k (fun kq v13 w' => ∃ (x13_1 : List (S23)) (x221000_1 : ByteArray) (x221001_1 : Int) (x221002_1 : Int) (x221003_1 : Int), Aside0 (segment_From.l0 kq a3 a4 x13_1 x221000_1 x221001_1 x221002_1 x221003_1 = some r) ∧ Aside0 (kq ≤ k) ∧ Aside0 (Kd.R k23 23 w' w.heap.size (fun _ => True) v13 x13_1) ∧ Aside0 (IsS71 w w' gb220 x221000_1 x221001_1 x221002_1 x221003_1) ∧ Aside0 (Below w.heap.size w w'))
   case atStart => exact ⟨(([] : List (S23))), (a1), (t219), (a0), (0), H', ⟨Nat.le_refl _⟩, ⟨by first | exact Kd.R_nil _ _ _ _ _ | exact Kd.N_nil _ _ _ _ _ | exact Kd.V_nil _ _ _ _ _ | exact Kd.Q_nil _ _ _ _ _ | exact Kd.S_nil _ _ _ _ _⟩, ⟨by repeat (first | (with_reducible first | exact HI220.out | apply IsS71.alloc | apply IsS71.drewN | apply IsS71.drew | apply IsS71.set_0 | apply IsS71.set_1 | apply IsS71.set_2 | apply IsS71.set_3) | exact HI220.out)⟩, ⟨by repeat (first | (with_reducible first | exact HB.out | apply below_alloc | apply pw_below_drewN | apply below_drew1 | refine below_set ?_ (IsS71.ge HI220.out)) | exact HB.out)⟩⟩
   case round =>
    clear H'
    try clear c1
    try clear c2
    try clear p2
    try clear c7
    try clear c7b0
    try clear c9
    try clear c9b0
    try clear hcz13_0
    try clear hcz13_1
    try clear hcz13_2
    try clear hcz13_3
    try clear hfz13_0
    try clear hfz13_1
    try clear hfz13_2
    try clear hfz13_3
    obtain ⟨x13_1, x221000_1, x221001_1, x221002_1, x221003_1, HA, HK1, HO_13, HI220, HB⟩ := hrel
    cases gk with
    | zero => exact absurd HA.out (by simp [segment_From.l0])
    | succ k1 =>
     have H := HA.out
     clear HA
     simp only [segment_From.l0] at H
     by_cases c14 : (x13_1.length : Int) < a4
     ·rw [if_pos c14] at H
      have c14b0 : decide ((x13_1.length : Int) < a4) = true := decide_eq_true c14
      clear c14
      replace H := Option.bind_eq_some_iff.mp H
      obtain ⟨⟨t221, t222, t223, t224, t225, t226, t227, t228, t229, t230⟩, A150, H⟩ := H
      replace H : (if t226 = true then (if t221 ≥ a3 then (if x13_1.length < 2199023255552 then (segment_From.l0 k1 a3 a4 (x13_1 ++ [(⟨t221, t222, t223, t224, t225⟩ : S23)]) t227 t228 t229 t230) else (none)) else (segment_From.l0 k1 a3 a4 x13_1 t227 t228 t229 t230)) else (some x13_1)) = some r := H
      have A15 := Aside0.mk A150
      clear A150
      by_cases c16 : t226 = true
      ·subst c16
       have H1 : (if t221 ≥ a3 then (if x13_1.length < 2199023255552 then (segment_From.l0 k1 a3 a4 (x13_1 ++ [(⟨t221, t222, t223, t224, t225⟩ : S23)]) t227 t228 t229 t230) else (none)) else (segment_From.l0 k1 a3 a4 x13_1 t227 t228 t229 t230)) = some r := by rw [if_pos rfl] at H; exact H
       clear H
       have H := H1
       clear H1
       by_cases c17 : t221 ≥ a3
       ·rw [if_pos c17] at H
        have c17b0 : decide (a3 ≤ t221) = true := decide_eq_true c17
        clear c17
        by_cases c18 : x13_1.length < 2199023255552
        ·rw [if_pos c18] at H
         have LMc18 := Aside0.mk c18
         clear c18
         obtain ⟨y232, hy232⟩ : ∃ y_ : List (S23), y_ = (x13_1 ++ [(⟨t221, t222, t223, t224, t225⟩ : S23)]) := ⟨_, rfl⟩
         replace H : (segment_From.l0 k1 a3 a4 y232 t227 t228 t229 t230) = some r := by first | (rw [hy232]; with_reducible exact H) | (have H2_ := (Option.bind_some _ _).symm.trans H; rw [hy232]; with_reducible exact H2_) | (have H2_ := (Option.bind_some _ _).symm.trans H; with_reducible exact H2_) | with_reducible exact H | (rw [hy232]; exact H) | exact H
         have Ny232 := Aside0.mk hy232
         clear hy232
         have H' := Aside0.mk H
         clear H
         obtain ⟨Ao19, co19, eo19⟩ := Kd.R_slice HO_13.out
         subst eo19
         go_wp2_with (first | ((with_reducible refine gate_callee (f := 30) rfl ?_); refine goesL_ (some 37) rfl rfl Tryd.func30 (by kernel_rfl) rfl #[.pointer (some ⟨gb220, 0, none⟩)] rfl am ?_; (with_reducible refine (segment_reader_next.calls k1 gb220 x221000_1 x221001_1 x221002_1 x221003_1 t221 t222 t223 t224 t225 true t227 t228 t229 t230 w _ ?side1 ?side2 tbk A15.out).mono ?_); (case side1 => repeat (first | (with_reducible first | exact HI220.out | apply IsS71.alloc | apply IsS71.drewN | apply IsS71.drew | apply IsS71.set_0 | apply IsS71.set_1 | apply IsS71.set_2 | apply IsS71.set_3) | exact HI220.out)); (case side2 => repeat (first | (with_reducible first | exact HB.out | apply below_alloc | apply pw_below_drewN | apply below_drew1 | refine below_set ?_ (IsS71.ge HI220.out)) | exact HB.out)); rintro e w20 ⟨rfl, hi, hb, hk⟩; refine ⟨_, rfl, ?_⟩; have n0_ := Aside0.mk (Kd.R_mono (Kd.R_keep (IsS71.apart (show IsS71 w _ gb220 x221000_1 x221001_1 x221002_1 x221003_1 from by repeat (first | (with_reducible first | exact HI220.out | apply IsS71.alloc | apply IsS71.drewN | apply IsS71.drew | apply IsS71.set_0 | apply IsS71.set_1 | apply IsS71.set_2 | apply IsS71.set_3) | exact HI220.out)) (by (with_reducible repeat (first | apply Kd.R_alloc | apply Kd.R_drewN | apply Kd.R_drew)); exact HO_13.out) (by decide)) hk (fun _ h => h.2)) (fun _ h => h.1)); have n1_ := Aside0.mk (hb); have n2_ := Aside0.mk (hi); clear HO_13; clear HB; clear HI220; have HO_13 := n0_; have HB := n1_; have HI220 := n2_; clear n0_ n1_ n2_; (try clear hb); (try clear hb2); (try clear hk); (try clear hi)) | ((with_reducible refine gate_dst (N := 14) rfl ?_); (try (refine gate_guard (by rfl) ?_; dsimp only)); refine box_event ?hg (N := 14) ?hd (cs := #[.int .i64 0, .string (⟨#[]⟩ : ByteArray), .int .i64 0, .string (⟨#[]⟩ : ByteArray), .string (⟨#[]⟩ : ByteArray)]) (t := 23) ?hr ?_; (case hd => rfl); (case hg => rfl); (case hr => first | (go_simp; done) | (go_simp; rfl)); intro gb231 hg w21 hbox hb; have n0_ := Aside0.mk (Kd.R_below (Kd.R_elderB (by (with_reducible repeat (first | apply Kd.R_alloc | apply Kd.R_drewN | apply Kd.R_drew)); exact HO_13.out) gb231 (Nat.le_of_eq hg.symm)) hb); have n1_ := Aside0.mk (IsS71.below (by repeat (first | (with_reducible first | exact HI220.out | apply IsS71.alloc | apply IsS71.drewN | apply IsS71.drew | apply IsS71.set_0 | apply IsS71.set_1 | apply IsS71.set_2 | apply IsS71.set_3) | exact HI220.out)) hb); have n2_ := Aside0.mk (below_step (by repeat (first | (with_reducible first | exact HB.out | apply below_alloc | apply pw_below_drewN | apply below_drew1 | refine below_set ?_ (IsS71.ge HI220.out)) | exact HB.out)) hb); have n3_ := Aside0.mk (hbox); have n4_ := Aside0.mk ((by rw [hg]; exact (below_size (by repeat (first | (with_reducible first | exact HB.out | apply below_alloc | apply pw_below_drewN | apply below_drew1 | refine below_set ?_ (IsS71.ge HI220.out)) | exact HB.out))) : w.heap.size ≤ gb231)); have n5_ := Aside0.mk ((by rw [hg]; exact (below_size (by repeat (first | (with_reducible first | exact HB.out | apply below_alloc | apply pw_below_drewN | apply below_drew1 | refine below_set ?_ (IsS71.ge HI220.out)) | exact HB.out))) : w.heap.size ≤ gb231)); have n6_ := Aside0.mk ((by rw [hg]; exact Nat.ne_of_lt (IsS71.lt (show IsS71 w _ gb220 t227 t228 t229 t230 from by repeat (first | (with_reducible first | exact HI220.out | apply IsS71.alloc | apply IsS71.drewN | apply IsS71.drew | apply IsS71.set_0 | apply IsS71.set_1 | apply IsS71.set_2 | apply IsS71.set_3) | exact HI220.out))) : gb220 ≠ gb231)); have n7_ := Aside0.mk ((by rw [hg]; exact Nat.ne_of_gt (IsS71.lt (show IsS71 w _ gb220 t227 t228 t229 t230 from by repeat (first | (with_reducible first | exact HI220.out | apply IsS71.alloc | apply IsS71.drewN | apply IsS71.drew | apply IsS71.set_0 | apply IsS71.set_1 | apply IsS71.set_2 | apply IsS71.set_3) | exact HI220.out))) : gb231 ≠ gb220)); clear HO_13; clear HI220; clear HB; have HO_13 := n0_; have HI220 := n1_; have HB := n2_; have BK231 := n3_; have GW231 := n4_; have GE231 := n5_; have NB220_231 := n6_; have NB231_220 := n7_; clear n0_ n1_ n2_ n3_ n4_ n5_ n6_ n7_; clear hb hbox hg; have hnb22 := NB231_220.out; have hnc22 := NB220_231.out; have hcz23_0 := bc5_0 BK231.out; have hcz23_1 := bc5_1 BK231.out; have hcz23_2 := bc5_2 BK231.out; have hcz23_3 := bc5_3 BK231.out; have hcz23_4 := bc5_4 BK231.out; have hfz23_0 := blk_frozen BK231.out 0; have hfz23_1 := blk_frozen BK231.out 1; have hfz23_2 := blk_frozen BK231.out 2; have hfz23_3 := blk_frozen BK231.out 3; have hfz23_4 := blk_frozen BK231.out 4) | ((with_reducible refine gate_builtin (b := .append) (xs := #[.tmp 46, .tmp 48]) rfl ?_); (try (refine gate_guard (by rfl) ?_; dsimp only)); at_builtin; refine Kd.R_append k23 (w0 := w) w.heap.size rfl (.tmp 46) (.tmp 48) 31 23 (.agg #[(.int .i64 0), (.string ⟨#[]⟩), (.int .i64 0), (.string ⟨#[]⟩), (.string ⟨#[]⟩)]) 64 rfl Tryd.underlying31 info23 rfl (by decide) (by omega) (.slice Ao19 x13_1.length co19) x13_1 (⟨t221, t222, t223, t224, t225⟩ : S23) [.int .i64 t221, .string t222, .int .i64 t223, .string t224, .string t225] (fun k_ => k_ ≠ gb231) (fun _ => False) rfl (by first | (go_simp; done) | (go_simp; rfl)) ?aP (fun _ hk => hk.elim) ?aF ?aO ?aB ?aS ?aL ?_; (case aP => exact k23_mkM _ _ _ (⟨t221, t222, t223, t224, t225⟩ : S23)); (case aB => exact (by repeat (first | (with_reducible first | exact HB.out | apply below_alloc | apply pw_below_drewN | apply below_drew1 | refine below_set ?_ (IsS71.ge HI220.out) | refine below_set ?_ GE231.out) | exact HB.out))); (case aF => exact (fun k_ hk => Kd.freshB (g := gb231) (o := .cells #[.int .i64 t221, .string t222, .int .i64 t223, .string t224, .string t225] 23 (0, 0)) (by (with_reducible repeat (first | refine blk_drewN ?_ _ | refine blk_drew ?_ | refine blk_alloc ?_ _)); refine blk_put (cs := #[.int .i64 t221, .string t222, .int .i64 t223, .string t224, .string (⟨#[]⟩ : ByteArray)]) ?_ 4 _ rfl; (with_reducible repeat (first | refine blk_drewN ?_ _ | refine blk_drew ?_ | refine blk_alloc ?_ _)); refine blk_put (cs := #[.int .i64 t221, .string t222, .int .i64 t223, .string (⟨#[]⟩ : ByteArray), .string (⟨#[]⟩ : ByteArray)]) ?_ 3 _ rfl; (with_reducible repeat (first | refine blk_drewN ?_ _ | refine blk_drew ?_ | refine blk_alloc ?_ _)); refine blk_put (cs := #[.int .i64 t221, .string t222, .int .i64 0, .string (⟨#[]⟩ : ByteArray), .string (⟨#[]⟩ : ByteArray)]) ?_ 2 _ rfl; (with_reducible repeat (first | refine blk_drewN ?_ _ | refine blk_drew ?_ | refine blk_alloc ?_ _)); refine blk_put (cs := #[.int .i64 t221, .string (⟨#[]⟩ : ByteArray), .int .i64 0, .string (⟨#[]⟩ : ByteArray), .string (⟨#[]⟩ : ByteArray)]) ?_ 1 _ rfl; (with_reducible repeat (first | refine blk_drewN ?_ _ | refine blk_drew ?_ | refine blk_alloc ?_ _)); refine blk_put (cs := #[.int .i64 0, .string (⟨#[]⟩ : ByteArray), .int .i64 0, .string (⟨#[]⟩ : ByteArray), .string (⟨#[]⟩ : ByteArray)]) ?_ 0 _ rfl; (with_reducible repeat (first | refine blk_drewN ?_ _ | refine blk_drew ?_ | refine blk_alloc ?_ _)); exact BK231.out) k_ hk)); (case aO => exact (by (with_reducible repeat (first | apply Kd.R_alloc | apply Kd.R_drewN | apply Kd.R_drew)); exact Kd.R_mono (Kd.R_far (p := ⟨gb231, 4, none⟩) (Kd.R_far (p := ⟨gb231, 3, none⟩) (Kd.R_far (p := ⟨gb231, 2, none⟩) (Kd.R_far (p := ⟨gb231, 1, none⟩) (Kd.R_far (p := ⟨gb231, 0, none⟩) (Kd.R_mono HO_13.out (fun k_ hk => (⟨hk, hk.2⟩ : _ ∧ k_ ≠ gb231))) (fun _ hk => hk.2) (.int .i64 t221)) (fun _ hk => hk.2) (.string t222)) (fun _ hk => hk.2) (.int .i64 t223)) (fun _ hk => hk.2) (.string t224)) (fun _ hk => hk.2) (.string t225)) (fun _ hk => hk.1.2))); (case aS => exact (below_size (by repeat (first | (with_reducible first | exact HB.out | apply below_alloc | apply pw_below_drewN | apply below_drew1 | refine below_set ?_ (IsS71.ge HI220.out) | refine below_set ?_ GE231.out) | exact HB.out)))); (case aL => have := LMc18.out; omega); intro v233 w24 ho hb hg hat; rw [← Ny232.out] at ho; have n0_ := Aside0.mk (IsS71.grown (show IsS71 w _ gb220 t227 t228 t229 t230 from by repeat (first | (with_reducible first | exact HI220.out | apply IsS71.alloc | apply IsS71.drewN | apply IsS71.drew | apply IsS71.set_0 | apply IsS71.set_1 | apply IsS71.set_2 | apply IsS71.set_3 | refine IsS71.far ?_ NB220_231.out _) | exact HI220.out)) hg (IsS71.own_ne HI220.out HO_13.out (by decide))); have n1_ := Aside0.mk (blk_grown (g := gb231) (o := .cells #[.int .i64 t221, .string t222, .int .i64 t223, .string t224, .string t225] 23 (0, 0)) (by (with_reducible repeat (first | refine blk_drewN ?_ _ | refine blk_drew ?_ | refine blk_alloc ?_ _)); refine blk_put (cs := #[.int .i64 t221, .string t222, .int .i64 t223, .string t224, .string (⟨#[]⟩ : ByteArray)]) ?_ 4 _ rfl; (with_reducible repeat (first | refine blk_drewN ?_ _ | refine blk_drew ?_ | refine blk_alloc ?_ _)); refine blk_put (cs := #[.int .i64 t221, .string t222, .int .i64 t223, .string (⟨#[]⟩ : ByteArray), .string (⟨#[]⟩ : ByteArray)]) ?_ 3 _ rfl; (with_reducible repeat (first | refine blk_drewN ?_ _ | refine blk_drew ?_ | refine blk_alloc ?_ _)); refine blk_put (cs := #[.int .i64 t221, .string t222, .int .i64 0, .string (⟨#[]⟩ : ByteArray), .string (⟨#[]⟩ : ByteArray)]) ?_ 2 _ rfl; (with_reducible repeat (first | refine blk_drewN ?_ _ | refine blk_drew ?_ | refine blk_alloc ?_ _)); refine blk_put (cs := #[.int .i64 t221, .string (⟨#[]⟩ : ByteArray), .int .i64 0, .string (⟨#[]⟩ : ByteArray), .string (⟨#[]⟩ : ByteArray)]) ?_ 1 _ rfl; (with_reducible repeat (first | refine blk_drewN ?_ _ | refine blk_drew ?_ | refine blk_alloc ?_ _)); refine blk_put (cs := #[.int .i64 0, .string (⟨#[]⟩ : ByteArray), .int .i64 0, .string (⟨#[]⟩ : ByteArray), .string (⟨#[]⟩ : ByteArray)]) ?_ 0 _ rfl; (with_reducible repeat (first | refine blk_drewN ?_ _ | refine blk_drew ?_ | refine blk_alloc ?_ _)); exact BK231.out) hg (Kd.R_away HO_13.out (fun _ hk => hk.2))); have n2_ := Aside0.mk (hb); have n3_ := Aside0.mk (ho); clear HI220; clear BK231; clear HB; clear HO_13; have HI220 := n0_; have BK231 := n1_; have HB := n2_; have HO234 := n3_; clear n0_ n1_ n2_ n3_; clear ho hb hg hat))
         go_roundg k1
         case measure => have := HK1.out; omega
         case rel => exact ⟨(y232), (t227), (t228), (t229), (t230), H', ⟨by have := HK1.out; omega⟩, ⟨by (with_reducible repeat (first | apply Kd.R_alloc | apply Kd.R_drewN | apply Kd.R_drew)); exact Kd.R_mono HO234.out (fun _ hk => trivial)⟩, ⟨by repeat (first | (with_reducible first | exact HI220.out | apply IsS71.alloc | apply IsS71.drewN | apply IsS71.drew | apply IsS71.set_0 | apply IsS71.set_1 | apply IsS71.set_2 | apply IsS71.set_3 | refine IsS71.far ?_ NB220_231.out _) | exact HI220.out)⟩, ⟨by repeat (first | (with_reducible first | exact HB.out | apply below_alloc | apply pw_below_drewN | apply below_drew1 | refine below_set ?_ (IsS71.ge HI220.out) | refine below_set ?_ GE231.out) | exact HB.out)⟩⟩
        ·rw [if_neg c18] at H
         exact absurd H (by simp)
       ·rw [if_neg c17] at H
        have c17b0 : decide (a3 ≤ t221) = false := decide_eq_false c17
        clear c17
        have H' := Aside0.mk H
        clear H
        obtain ⟨Ao25, co25, eo25⟩ := Kd.R_slice HO_13.out
        subst eo25
        go_wp2_with (first | ((with_reducible refine gate_callee (f := 30) rfl ?_); refine goesL_ (some 37) rfl rfl Tryd.func30 (by kernel_rfl) rfl #[.pointer (some ⟨gb220, 0, none⟩)] rfl am ?_; (with_reducible refine (segment_reader_next.calls k1 gb220 x221000_1 x221001_1 x221002_1 x221003_1 t221 t222 t223 t224 t225 true t227 t228 t229 t230 w _ ?side1 ?side2 tbk A15.out).mono ?_); (case side1 => repeat (first | (with_reducible first | exact HI220.out | apply IsS71.alloc | apply IsS71.drewN | apply IsS71.drew | apply IsS71.set_0 | apply IsS71.set_1 | apply IsS71.set_2 | apply IsS71.set_3) | exact HI220.out)); (case side2 => repeat (first | (with_reducible first | exact HB.out | apply below_alloc | apply pw_below_drewN | apply below_drew1 | refine below_set ?_ (IsS71.ge HI220.out)) | exact HB.out)); rintro e w26 ⟨rfl, hi, hb, hk⟩; refine ⟨_, rfl, ?_⟩; have n0_ := Aside0.mk (Kd.R_mono (Kd.R_keep (IsS71.apart (show IsS71 w _ gb220 x221000_1 x221001_1 x221002_1 x221003_1 from by repeat (first | (with_reducible first | exact HI220.out | apply IsS71.alloc | apply IsS71.drewN | apply IsS71.drew | apply IsS71.set_0 | apply IsS71.set_1 | apply IsS71.set_2 | apply IsS71.set_3) | exact HI220.out)) (by (with_reducible repeat (first | apply Kd.R_alloc | apply Kd.R_drewN | apply Kd.R_drew)); exact HO_13.out) (by decide)) hk (fun _ h => h.2)) (fun _ h => h.1)); have n1_ := Aside0.mk (hb); have n2_ := Aside0.mk (hi); clear HO_13; clear HB; clear HI220; have HO_13 := n0_; have HB := n1_; have HI220 := n2_; clear n0_ n1_ n2_; (try clear hb); (try clear hb2); (try clear hk); (try clear hi)) | ((with_reducible refine gate_dst (N := 14) rfl ?_); (try (refine gate_guard (by rfl) ?_; dsimp only)); refine box_event ?hg (N := 14) ?hd (cs := #[.int .i64 0, .string (⟨#[]⟩ : ByteArray), .int .i64 0, .string (⟨#[]⟩ : ByteArray), .string (⟨#[]⟩ : ByteArray)]) (t := 23) ?hr ?_; (case hd => rfl); (case hg => rfl); (case hr => first | (go_simp; done) | (go_simp; rfl)); intro gb231 hg w27 hbox hb; have n0_ := Aside0.mk (Kd.R_below (Kd.R_elderB (by (with_reducible repeat (first | apply Kd.R_alloc | apply Kd.R_drewN | apply Kd.R_drew)); exact HO_13.out) gb231 (Nat.le_of_eq hg.symm)) hb); have n1_ := Aside0.mk (IsS71.below (by repeat (first | (with_reducible first | exact HI220.out | apply IsS71.alloc | apply IsS71.drewN | apply IsS71.drew | apply IsS71.set_0 | apply IsS71.set_1 | apply IsS71.set_2 | apply IsS71.set_3) | exact HI220.out)) hb); have n2_ := Aside0.mk (below_step (by repeat (first | (with_reducible first | exact HB.out | apply below_alloc | apply pw_below_drewN | apply below_drew1 | refine below_set ?_ (IsS71.ge HI220.out)) | exact HB.out)) hb); have n3_ := Aside0.mk (hbox); have n4_ := Aside0.mk ((by rw [hg]; exact (below_size (by repeat (first | (with_reducible first | exact HB.out | apply below_alloc | apply pw_below_drewN | apply below_drew1 | refine below_set ?_ (IsS71.ge HI220.out)) | exact HB.out))) : w.heap.size ≤ gb231)); have n5_ := Aside0.mk ((by rw [hg]; exact (below_size (by repeat (first | (with_reducible first | exact HB.out | apply below_alloc | apply pw_below_drewN | apply below_drew1 | refine below_set ?_ (IsS71.ge HI220.out)) | exact HB.out))) : w.heap.size ≤ gb231)); have n6_ := Aside0.mk ((by rw [hg]; exact Nat.ne_of_lt (IsS71.lt (show IsS71 w _ gb220 t227 t228 t229 t230 from by repeat (first | (with_reducible first | exact HI220.out | apply IsS71.alloc | apply IsS71.drewN | apply IsS71.drew | apply IsS71.set_0 | apply IsS71.set_1 | apply IsS71.set_2 | apply IsS71.set_3) | exact HI220.out))) : gb220 ≠ gb231)); have n7_ := Aside0.mk ((by rw [hg]; exact Nat.ne_of_gt (IsS71.lt (show IsS71 w _ gb220 t227 t228 t229 t230 from by repeat (first | (with_reducible first | exact HI220.out | apply IsS71.alloc | apply IsS71.drewN | apply IsS71.drew | apply IsS71.set_0 | apply IsS71.set_1 | apply IsS71.set_2 | apply IsS71.set_3) | exact HI220.out))) : gb231 ≠ gb220)); clear HO_13; clear HI220; clear HB; have HO_13 := n0_; have HI220 := n1_; have HB := n2_; have BK231 := n3_; have GW231 := n4_; have GE231 := n5_; have NB220_231 := n6_; have NB231_220 := n7_; clear n0_ n1_ n2_ n3_ n4_ n5_ n6_ n7_; clear hb hbox hg; have hnb28 := NB231_220.out; have hnc28 := NB220_231.out; have hcz29_0 := bc5_0 BK231.out; have hcz29_1 := bc5_1 BK231.out; have hcz29_2 := bc5_2 BK231.out; have hcz29_3 := bc5_3 BK231.out; have hcz29_4 := bc5_4 BK231.out; have hfz29_0 := blk_frozen BK231.out 0; have hfz29_1 := blk_frozen BK231.out 1; have hfz29_2 := blk_frozen BK231.out 2; have hfz29_3 := blk_frozen BK231.out 3; have hfz29_4 := blk_frozen BK231.out 4))
        go_roundg k1
        case measure => have := HK1.out; omega
        case rel => exact ⟨(x13_1), (t227), (t228), (t229), (t230), H', ⟨by have := HK1.out; omega⟩, ⟨by (with_reducible repeat (first | apply Kd.R_alloc | apply Kd.R_drewN | apply Kd.R_drew)); exact Kd.R_mono (Kd.R_far (p := ⟨gb231, 4, none⟩) (Kd.R_far (p := ⟨gb231, 3, none⟩) (Kd.R_far (p := ⟨gb231, 2, none⟩) (Kd.R_far (p := ⟨gb231, 1, none⟩) (Kd.R_far (p := ⟨gb231, 0, none⟩) (Kd.R_mono HO_13.out (fun k_ hk => (⟨hk, hk.2⟩ : _ ∧ k_ ≠ gb231))) (fun _ hk => hk.2) (.int .i64 t221)) (fun _ hk => hk.2) (.string t222)) (fun _ hk => hk.2) (.int .i64 t223)) (fun _ hk => hk.2) (.string t224)) (fun _ hk => hk.2) (.string t225)) (fun _ hk => trivial)⟩, ⟨by repeat (first | (with_reducible first | exact HI220.out | apply IsS71.alloc | apply IsS71.drewN | apply IsS71.drew | apply IsS71.set_0 | apply IsS71.set_1 | apply IsS71.set_2 | apply IsS71.set_3 | refine IsS71.far ?_ NB220_231.out _) | exact HI220.out)⟩, ⟨by repeat (first | (with_reducible first | exact HB.out | apply below_alloc | apply pw_below_drewN | apply below_drew1 | refine below_set ?_ (IsS71.ge HI220.out) | refine below_set ?_ GE231.out) | exact HB.out)⟩⟩
      ·replace c16 := Bool.eq_false_iff.mpr c16
       subst c16
       have H1 : (some x13_1) = some r := by rw [if_neg (show ¬ (false = true) by decide)] at H; exact H
       clear H
       have H := H1
       clear H1
       obtain rfl := Option.some.inj H
       obtain ⟨Ao30, co30, eo30⟩ := Kd.R_slice HO_13.out
       subst eo30
       go_wp2_with (first | ((with_reducible refine gate_callee (f := 30) rfl ?_); refine goesL_ (some 37) rfl rfl Tryd.func30 (by kernel_rfl) rfl #[.pointer (some ⟨gb220, 0, none⟩)] rfl am ?_; (with_reducible refine (segment_reader_next.calls k1 gb220 x221000_1 x221001_1 x221002_1 x221003_1 t221 t222 t223 t224 t225 false t227 t228 t229 t230 w _ ?side1 ?side2 tbk A15.out).mono ?_); (case side1 => repeat (first | (with_reducible first | exact HI220.out | apply IsS71.alloc | apply IsS71.drewN | apply IsS71.drew | apply IsS71.set_0 | apply IsS71.set_1 | apply IsS71.set_2 | apply IsS71.set_3) | exact HI220.out)); (case side2 => repeat (first | (with_reducible first | exact HB.out | apply below_alloc | apply pw_below_drewN | apply below_drew1 | refine below_set ?_ (IsS71.ge HI220.out)) | exact HB.out)); rintro e w31 ⟨rfl, hi, hb, hk⟩; refine ⟨_, rfl, ?_⟩; have n0_ := Aside0.mk (Kd.R_mono (Kd.R_keep (IsS71.apart (show IsS71 w _ gb220 x221000_1 x221001_1 x221002_1 x221003_1 from by repeat (first | (with_reducible first | exact HI220.out | apply IsS71.alloc | apply IsS71.drewN | apply IsS71.drew | apply IsS71.set_0 | apply IsS71.set_1 | apply IsS71.set_2 | apply IsS71.set_3) | exact HI220.out)) (by (with_reducible repeat (first | apply Kd.R_alloc | apply Kd.R_drewN | apply Kd.R_drew)); exact HO_13.out) (by decide)) hk (fun _ h => h.2)) (fun _ h => h.1)); have n1_ := Aside0.mk (hb); have n2_ := Aside0.mk (hi); clear HO_13; clear HB; clear HI220; have HO_13 := n0_; have HB := n1_; have HI220 := n2_; clear n0_ n1_ n2_; (try clear hb); (try clear hb2); (try clear hk); (try clear hi)) | ((with_reducible refine gate_dst (N := 14) rfl ?_); (try (refine gate_guard (by rfl) ?_; dsimp only)); refine box_event ?hg (N := 14) ?hd (cs := #[.int .i64 0, .string (⟨#[]⟩ : ByteArray), .int .i64 0, .string (⟨#[]⟩ : ByteArray), .string (⟨#[]⟩ : ByteArray)]) (t := 23) ?hr ?_; (case hd => rfl); (case hg => rfl); (case hr => first | (go_simp; done) | (go_simp; rfl)); intro gb231 hg w32 hbox hb; have n0_ := Aside0.mk (Kd.R_below (Kd.R_elderB (by (with_reducible repeat (first | apply Kd.R_alloc | apply Kd.R_drewN | apply Kd.R_drew)); exact HO_13.out) gb231 (Nat.le_of_eq hg.symm)) hb); have n1_ := Aside0.mk (IsS71.below (by repeat (first | (with_reducible first | exact HI220.out | apply IsS71.alloc | apply IsS71.drewN | apply IsS71.drew | apply IsS71.set_0 | apply IsS71.set_1 | apply IsS71.set_2 | apply IsS71.set_3) | exact HI220.out)) hb); have n2_ := Aside0.mk (below_step (by repeat (first | (with_reducible first | exact HB.out | apply below_alloc | apply pw_below_drewN | apply below_drew1 | refine below_set ?_ (IsS71.ge HI220.out)) | exact HB.out)) hb); have n3_ := Aside0.mk (hbox); have n4_ := Aside0.mk ((by rw [hg]; exact (below_size (by repeat (first | (with_reducible first | exact HB.out | apply below_alloc | apply pw_below_drewN | apply below_drew1 | refine below_set ?_ (IsS71.ge HI220.out)) | exact HB.out))) : w.heap.size ≤ gb231)); have n5_ := Aside0.mk ((by rw [hg]; exact (below_size (by repeat (first | (with_reducible first | exact HB.out | apply below_alloc | apply pw_below_drewN | apply below_drew1 | refine below_set ?_ (IsS71.ge HI220.out)) | exact HB.out))) : w.heap.size ≤ gb231)); have n6_ := Aside0.mk ((by rw [hg]; exact Nat.ne_of_lt (IsS71.lt (show IsS71 w _ gb220 t227 t228 t229 t230 from by repeat (first | (with_reducible first | exact HI220.out | apply IsS71.alloc | apply IsS71.drewN | apply IsS71.drew | apply IsS71.set_0 | apply IsS71.set_1 | apply IsS71.set_2 | apply IsS71.set_3) | exact HI220.out))) : gb220 ≠ gb231)); have n7_ := Aside0.mk ((by rw [hg]; exact Nat.ne_of_gt (IsS71.lt (show IsS71 w _ gb220 t227 t228 t229 t230 from by repeat (first | (with_reducible first | exact HI220.out | apply IsS71.alloc | apply IsS71.drewN | apply IsS71.drew | apply IsS71.set_0 | apply IsS71.set_1 | apply IsS71.set_2 | apply IsS71.set_3) | exact HI220.out))) : gb231 ≠ gb220)); clear HO_13; clear HI220; clear HB; have HO_13 := n0_; have HI220 := n1_; have HB := n2_; have BK231 := n3_; have GW231 := n4_; have GE231 := n5_; have NB220_231 := n6_; have NB231_220 := n7_; clear n0_ n1_ n2_ n3_ n4_ n5_ n6_ n7_; clear hb hbox hg; have hnb33 := NB231_220.out; have hnc33 := NB220_231.out; have hcz34_0 := bc5_0 BK231.out; have hcz34_1 := bc5_1 BK231.out; have hcz34_2 := bc5_2 BK231.out; have hcz34_3 := bc5_3 BK231.out; have hcz34_4 := bc5_4 BK231.out; have hfz34_0 := blk_frozen BK231.out 0; have hfz34_1 := blk_frozen BK231.out 1; have hfz34_2 := blk_frozen BK231.out 2; have hfz34_3 := blk_frozen BK231.out 3; have hfz34_4 := blk_frozen BK231.out 4))
       go_ret
       exact ⟨_, er, by (with_reducible repeat (first | apply Kd.R_alloc | apply Kd.R_drewN | apply Kd.R_drew)); exact Kd.R_mono (Kd.R_far (p := ⟨gb231, 4, none⟩) (Kd.R_far (p := ⟨gb231, 3, none⟩) (Kd.R_far (p := ⟨gb231, 2, none⟩) (Kd.R_far (p := ⟨gb231, 1, none⟩) (Kd.R_far (p := ⟨gb231, 0, none⟩) (Kd.R_mono HO_13.out (fun k_ hk => (⟨hk, hk.2⟩ : _ ∧ k_ ≠ gb231))) (fun _ hk => hk.2) (.int .i64 t221)) (fun _ hk => hk.2) (.string t222)) (fun _ hk => hk.2) (.int .i64 t223)) (fun _ hk => hk.2) (.string t224)) (fun _ hk => hk.2) (.string t225)) (fun _ hk => trivial), by repeat (first | (with_reducible first | exact HB.out | apply below_alloc | apply pw_below_drewN | apply below_drew1 | refine below_set ?_ (IsS71.ge HI220.out) | refine below_set ?_ GE231.out) | exact HB.out)⟩
     ·rw [if_neg c14] at H
      have c14b0 : decide ((x13_1.length : Int) < a4) = false := decide_eq_false c14
      clear c14
      obtain rfl := Option.some.inj H
      obtain ⟨Ao35, co35, eo35⟩ := Kd.R_slice HO_13.out
      subst eo35
      go_wp2
      go_ret
      exact ⟨_, er, by (with_reducible repeat (first | apply Kd.R_alloc | apply Kd.R_drewN | apply Kd.R_drew)); exact HO_13.out, by repeat (first | (with_reducible first | exact HB.out | apply below_alloc | apply pw_below_drewN | apply below_drew1 | refine below_set ?_ (IsS71.ge HI220.out)) | exact HB.out)⟩

/-! ### carillonlaw06_examples: function 9 -/
def carillonlaw06_examples.g (k : Nat)  : Option (Bool) := (segment_One.f k 3 (⟨#[]⟩ : ByteArray) 0 (⟨#[107]⟩ : ByteArray) (⟨#[]⟩ : ByteArray)).bind fun bt235 => ((segment_One.f k 5 (⟨#[]⟩ : ByteArray) 0 (⟨#[]⟩ : ByteArray) (⟨#[]⟩ : ByteArray)).bind fun bt237 => (if bt235.1.size + bt237.1.size ≤ 9223372036854775807 then ((segment_Scan.f k 0 (bt235.1 ++ bt237.1)).bind fun bt239 => ((segment_Scan.f k 4 (bt235.1 ++ bt237.1)).bind fun bt244 => ((segment_Index.f k 0 (bt235.1 ++ bt237.1) 2).bind fun bt249 => ((segment_From.f k 0 (bt235.1 ++ bt237.1) bt249.1 5 1).bind fun t253 => ((segment_One.f k (-1) (⟨#[]⟩ : ByteArray) 0 (⟨#[]⟩ : ByteArray) (⟨#[]⟩ : ByteArray)).bind fun bt256 => (if bt235.2 = 0 then (if (bt239.1.length : Int) = 2 then (if bt239.2.1 = ((bt235.1.size : Int) + (bt237.1.size : Int)) then (if bt239.2.2 = 0 then (if (bt244.1.length : Int) = 0 then (if bt244.2.1 = 0 then (if bt244.2.2 = 11 then (if (bt249.1.length : Int) = 1 then (if 0 < (bt249.1.length : Int) then (if (((rd_T44 bt249.1 0).f0) == 3 && (((rd_T44 bt249.1 0).f1) == 0)) = true then (if bt249.2 = 0 then (if (t253.length : Int) = 1 then (if 0 < (t253.length : Int) then (if ((rd_T23 t253 0).f0) = 5 then (some (bt256.2 == 1)) else (some false)) else (none)) else (some false)) else (some false)) else (some false)) else (none)) else (some false)) else (some false)) else (some false)) else (some false)) else (some false)) else (some false)) else (some false)) else (some false))))))) else (none)))
theorem carillonlaw06_examples.mono : ∀ k, LeO (carillonlaw06_examples.g k ) (carillonlaw06_examples.g (k + 1) ) := by
 intro  k
 unfold carillonlaw06_examples.g
 repeat' first
   | (with_reducible exact segment_From.mono _ _ _ _ _ _)
   | (with_reducible exact segment_Index.mono _ _ _ _)
   | (with_reducible exact segment_One.mono _ _ _ _ _ _)
   | (with_reducible exact segment_Scan.mono _ _ _)
   | (with_reducible exact LeO.refl _)
   | (with_reducible exact LeO.none _)
   | (with_reducible refine LeO.ite ?_ ?_)
   | (with_reducible refine LeO.bind ?_ (fun _ => ?_))
   | exact segment_From.mono _ _ _ _ _ _
   | exact segment_Index.mono _ _ _ _
   | exact segment_One.mono _ _ _ _ _ _
   | exact segment_Scan.mono _ _ _
   | exact LeO.none _
   | refine LeO.ite ?_ ?_
   | refine LeO.bind ?_ (fun _ => ?_)
set_option maxHeartbeats 8000000 in
set_option maxRecDepth 100000 in
theorem carillonlaw06_examples.calls0 (k : Nat)  (r : Bool) (w : World) (hr_ : Aside0 (r = true)) (HT_ : TabOk w) (h : carillonlaw06_examples.g k  = some r) :
  Calls Tryd.prog 9 #[] w fun e w' => e = .returned (.bool r) ∧ Below w.heap.size w w' := by
 have HT := Aside0.mk HT_
 clear HT_
 have hu23 := Tryd.underlying23
 have hu44 := Tryd.underlying44
 have HB := Aside0.mk (Below.refl w.heap.size w)
 have H : ((segment_One.f k 3 (⟨#[]⟩ : ByteArray) 0 (⟨#[107]⟩ : ByteArray) (⟨#[]⟩ : ByteArray)).bind fun bt235 => ((segment_One.f k 5 (⟨#[]⟩ : ByteArray) 0 (⟨#[]⟩ : ByteArray) (⟨#[]⟩ : ByteArray)).bind fun bt237 => (if bt235.1.size + bt237.1.size ≤ 9223372036854775807 then ((segment_Scan.f k 0 (bt235.1 ++ bt237.1)).bind fun bt239 => ((segment_Scan.f k 4 (bt235.1 ++ bt237.1)).bind fun bt244 => ((segment_Index.f k 0 (bt235.1 ++ bt237.1) 2).bind fun bt249 => ((segment_From.f k 0 (bt235.1 ++ bt237.1) bt249.1 5 1).bind fun t253 => ((segment_One.f k (-1) (⟨#[]⟩ : ByteArray) 0 (⟨#[]⟩ : ByteArray) (⟨#[]⟩ : ByteArray)).bind fun bt256 => (if bt235.2 = 0 then (if (bt239.1.length : Int) = 2 then (if bt239.2.1 = ((bt235.1.size : Int) + (bt237.1.size : Int)) then (if bt239.2.2 = 0 then (if (bt244.1.length : Int) = 0 then (if bt244.2.1 = 0 then (if bt244.2.2 = 11 then (if (bt249.1.length : Int) = 1 then (if 0 < (bt249.1.length : Int) then (if (((rd_T44 bt249.1 0).f0) == 3 && (((rd_T44 bt249.1 0).f1) == 0)) = true then (if bt249.2 = 0 then (if (t253.length : Int) = 1 then (if 0 < (t253.length : Int) then (if ((rd_T23 t253 0).f0) = 5 then (some (bt256.2 == 1)) else (some false)) else (none)) else (some false)) else (some false)) else (some false)) else (none)) else (some false)) else (some false)) else (some false)) else (some false)) else (some false)) else (some false)) else (some false)) else (some false))))))) else (none)))) = some r := h
 clear h
 replace H := Option.bind_eq_some_iff.mp H
 obtain ⟨⟨t235, t236⟩, A10, H⟩ := H
 replace H : ((segment_One.f k 5 (⟨#[]⟩ : ByteArray) 0 (⟨#[]⟩ : ByteArray) (⟨#[]⟩ : ByteArray)).bind fun bt237 => (if t235.size + bt237.1.size ≤ 9223372036854775807 then ((segment_Scan.f k 0 (t235 ++ bt237.1)).bind fun bt239 => ((segment_Scan.f k 4 (t235 ++ bt237.1)).bind fun bt244 => ((segment_Index.f k 0 (t235 ++ bt237.1) 2).bind fun bt249 => ((segment_From.f k 0 (t235 ++ bt237.1) bt249.1 5 1).bind fun t253 => ((segment_One.f k (-1) (⟨#[]⟩ : ByteArray) 0 (⟨#[]⟩ : ByteArray) (⟨#[]⟩ : ByteArray)).bind fun bt256 => (if t236 = 0 then (if (bt239.1.length : Int) = 2 then (if bt239.2.1 = ((t235.size : Int) + (bt237.1.size : Int)) then (if bt239.2.2 = 0 then (if (bt244.1.length : Int) = 0 then (if bt244.2.1 = 0 then (if bt244.2.2 = 11 then (if (bt249.1.length : Int) = 1 then (if 0 < (bt249.1.length : Int) then (if (((rd_T44 bt249.1 0).f0) == 3 && (((rd_T44 bt249.1 0).f1) == 0)) = true then (if bt249.2 = 0 then (if (t253.length : Int) = 1 then (if 0 < (t253.length : Int) then (if ((rd_T23 t253 0).f0) = 5 then (some (bt256.2 == 1)) else (some false)) else (none)) else (some false)) else (some false)) else (some false)) else (none)) else (some false)) else (some false)) else (some false)) else (some false)) else (some false)) else (some false)) else (some false)) else (some false))))))) else (none))) = some r := H
 have A1 := Aside0.mk A10
 clear A10
 replace H := Option.bind_eq_some_iff.mp H
 obtain ⟨⟨t237, t238⟩, A20, H⟩ := H
 replace H : (if t235.size + t237.size ≤ 9223372036854775807 then ((segment_Scan.f k 0 (t235 ++ t237)).bind fun bt239 => ((segment_Scan.f k 4 (t235 ++ t237)).bind fun bt244 => ((segment_Index.f k 0 (t235 ++ t237) 2).bind fun bt249 => ((segment_From.f k 0 (t235 ++ t237) bt249.1 5 1).bind fun t253 => ((segment_One.f k (-1) (⟨#[]⟩ : ByteArray) 0 (⟨#[]⟩ : ByteArray) (⟨#[]⟩ : ByteArray)).bind fun bt256 => (if t236 = 0 then (if (bt239.1.length : Int) = 2 then (if bt239.2.1 = ((t235.size : Int) + (t237.size : Int)) then (if bt239.2.2 = 0 then (if (bt244.1.length : Int) = 0 then (if bt244.2.1 = 0 then (if bt244.2.2 = 11 then (if (bt249.1.length : Int) = 1 then (if 0 < (bt249.1.length : Int) then (if (((rd_T44 bt249.1 0).f0) == 3 && (((rd_T44 bt249.1 0).f1) == 0)) = true then (if bt249.2 = 0 then (if (t253.length : Int) = 1 then (if 0 < (t253.length : Int) then (if ((rd_T23 t253 0).f0) = 5 then (some (bt256.2 == 1)) else (some false)) else (none)) else (some false)) else (some false)) else (some false)) else (none)) else (some false)) else (some false)) else (some false)) else (some false)) else (some false)) else (some false)) else (some false)) else (some false))))))) else (none)) = some r := H
 have A2 := Aside0.mk A20
 clear A20
 by_cases c3 : t235.size + t237.size ≤ 9223372036854775807
 ·rw [if_pos c3] at H
  have c3b0 := eq_true c3
  have c3b1 : decide (t235.size + t237.size ≤ 9223372036854775807) = true := decide_eq_true c3
  try have c3b2 : (9223372036854775807 < t235.size + t237.size) = False := eq_false (Nat.not_lt.2 c3)
  replace H := Option.bind_eq_some_iff.mp H
  obtain ⟨⟨t239, t240, t241⟩, A40, H⟩ := H
  replace H : ((segment_Scan.f k 4 (t235 ++ t237)).bind fun bt244 => ((segment_Index.f k 0 (t235 ++ t237) 2).bind fun bt249 => ((segment_From.f k 0 (t235 ++ t237) bt249.1 5 1).bind fun t253 => ((segment_One.f k (-1) (⟨#[]⟩ : ByteArray) 0 (⟨#[]⟩ : ByteArray) (⟨#[]⟩ : ByteArray)).bind fun bt256 => (if t236 = 0 then (if (t239.length : Int) = 2 then (if t240 = ((t235.size : Int) + (t237.size : Int)) then (if t241 = 0 then (if (bt244.1.length : Int) = 0 then (if bt244.2.1 = 0 then (if bt244.2.2 = 11 then (if (bt249.1.length : Int) = 1 then (if 0 < (bt249.1.length : Int) then (if (((rd_T44 bt249.1 0).f0) == 3 && (((rd_T44 bt249.1 0).f1) == 0)) = true then (if bt249.2 = 0 then (if (t253.length : Int) = 1 then (if 0 < (t253.length : Int) then (if ((rd_T23 t253 0).f0) = 5 then (some (bt256.2 == 1)) else (some false)) else (none)) else (some false)) else (some false)) else (some false)) else (none)) else (some false)) else (some false)) else (some false)) else (some false)) else (some false)) else (some false)) else (some false)) else (some false)))))) = some r := H
  have A4 := Aside0.mk A40
  clear A40
  replace H := Option.bind_eq_some_iff.mp H
  obtain ⟨⟨t244, t245, t246⟩, A50, H⟩ := H
  replace H : ((segment_Index.f k 0 (t235 ++ t237) 2).bind fun bt249 => ((segment_From.f k 0 (t235 ++ t237) bt249.1 5 1).bind fun t253 => ((segment_One.f k (-1) (⟨#[]⟩ : ByteArray) 0 (⟨#[]⟩ : ByteArray) (⟨#[]⟩ : ByteArray)).bind fun bt256 => (if t236 = 0 then (if (t239.length : Int) = 2 then (if t240 = ((t235.size : Int) + (t237.size : Int)) then (if t241 = 0 then (if (t244.length : Int) = 0 then (if t245 = 0 then (if t246 = 11 then (if (bt249.1.length : Int) = 1 then (if 0 < (bt249.1.length : Int) then (if (((rd_T44 bt249.1 0).f0) == 3 && (((rd_T44 bt249.1 0).f1) == 0)) = true then (if bt249.2 = 0 then (if (t253.length : Int) = 1 then (if 0 < (t253.length : Int) then (if ((rd_T23 t253 0).f0) = 5 then (some (bt256.2 == 1)) else (some false)) else (none)) else (some false)) else (some false)) else (some false)) else (none)) else (some false)) else (some false)) else (some false)) else (some false)) else (some false)) else (some false)) else (some false)) else (some false))))) = some r := H
  have A5 := Aside0.mk A50
  clear A50
  replace H := Option.bind_eq_some_iff.mp H
  obtain ⟨⟨t249, t250⟩, A60, H⟩ := H
  replace H : ((segment_From.f k 0 (t235 ++ t237) t249 5 1).bind fun t253 => ((segment_One.f k (-1) (⟨#[]⟩ : ByteArray) 0 (⟨#[]⟩ : ByteArray) (⟨#[]⟩ : ByteArray)).bind fun bt256 => (if t236 = 0 then (if (t239.length : Int) = 2 then (if t240 = ((t235.size : Int) + (t237.size : Int)) then (if t241 = 0 then (if (t244.length : Int) = 0 then (if t245 = 0 then (if t246 = 11 then (if (t249.length : Int) = 1 then (if 0 < (t249.length : Int) then (if (((rd_T44 t249 0).f0) == 3 && (((rd_T44 t249 0).f1) == 0)) = true then (if t250 = 0 then (if (t253.length : Int) = 1 then (if 0 < (t253.length : Int) then (if ((rd_T23 t253 0).f0) = 5 then (some (bt256.2 == 1)) else (some false)) else (none)) else (some false)) else (some false)) else (some false)) else (none)) else (some false)) else (some false)) else (some false)) else (some false)) else (some false)) else (some false)) else (some false)) else (some false)))) = some r := H
  have A6 := Aside0.mk A60
  clear A60
  replace H := Option.bind_eq_some_iff.mp H
  obtain ⟨t253, A70, H⟩ := H
  replace H : ((segment_One.f k (-1) (⟨#[]⟩ : ByteArray) 0 (⟨#[]⟩ : ByteArray) (⟨#[]⟩ : ByteArray)).bind fun bt256 => (if t236 = 0 then (if (t239.length : Int) = 2 then (if t240 = ((t235.size : Int) + (t237.size : Int)) then (if t241 = 0 then (if (t244.length : Int) = 0 then (if t245 = 0 then (if t246 = 11 then (if (t249.length : Int) = 1 then (if 0 < (t249.length : Int) then (if (((rd_T44 t249 0).f0) == 3 && (((rd_T44 t249 0).f1) == 0)) = true then (if t250 = 0 then (if (t253.length : Int) = 1 then (if 0 < (t253.length : Int) then (if ((rd_T23 t253 0).f0) = 5 then (some (bt256.2 == 1)) else (some false)) else (none)) else (some false)) else (some false)) else (some false)) else (none)) else (some false)) else (some false)) else (some false)) else (some false)) else (some false)) else (some false)) else (some false)) else (some false))) = some r := H
  have A7 := Aside0.mk A70
  clear A70
  replace H := Option.bind_eq_some_iff.mp H
  obtain ⟨⟨t256, t257⟩, A80, H⟩ := H
  replace H : (if t236 = 0 then (if (t239.length : Int) = 2 then (if t240 = ((t235.size : Int) + (t237.size : Int)) then (if t241 = 0 then (if (t244.length : Int) = 0 then (if t245 = 0 then (if t246 = 11 then (if (t249.length : Int) = 1 then (if 0 < (t249.length : Int) then (if (((rd_T44 t249 0).f0) == 3 && (((rd_T44 t249 0).f1) == 0)) = true then (if t250 = 0 then (if (t253.length : Int) = 1 then (if 0 < (t253.length : Int) then (if ((rd_T23 t253 0).f0) = 5 then (some (t257 == 1)) else (some false)) else (none)) else (some false)) else (some false)) else (some false)) else (none)) else (some false)) else (some false)) else (some false)) else (some false)) else (some false)) else (some false)) else (some false)) else (some false)) = some r := H
  have A8 := Aside0.mk A80
  clear A80
  by_cases c9 : t236 = 0
  ·rw [if_pos c9] at H
   have c9b0 : (t236 == 0) = true := beq_iff_eq.mpr c9
   have c9b1 : (t236 != 0) = false := bne_eq_false_iff_eq.mpr c9
   clear c9
   by_cases c10 : (t239.length : Int) = 2
   ·rw [if_pos c10] at H
    have c10b0 : ((t239.length : Int) == 2) = true := beq_iff_eq.mpr c10
    have c10b1 : ((t239.length : Int) != 2) = false := bne_eq_false_iff_eq.mpr c10
    clear c10
    by_cases c11 : t240 = ((t235.size : Int) + (t237.size : Int))
    ·rw [if_pos c11] at H
     have c11b0 : (t240 == ((t235.size : Int) + (t237.size : Int))) = true := beq_iff_eq.mpr c11
     have c11b1 : (t240 != ((t235.size : Int) + (t237.size : Int))) = false := bne_eq_false_iff_eq.mpr c11
     clear c11
     by_cases c12 : t241 = 0
     ·rw [if_pos c12] at H
      have c12b0 : (t241 == 0) = true := beq_iff_eq.mpr c12
      have c12b1 : (t241 != 0) = false := bne_eq_false_iff_eq.mpr c12
      clear c12
      by_cases c13 : (t244.length : Int) = 0
      ·rw [if_pos c13] at H
       have c13b0 : ((t244.length : Int) == 0) = true := beq_iff_eq.mpr c13
       have c13b1 : ((t244.length : Int) != 0) = false := bne_eq_false_iff_eq.mpr c13
       clear c13
       by_cases c14 : t245 = 0
       ·rw [if_pos c14] at H
        have c14b0 : (t245 == 0) = true := beq_iff_eq.mpr c14
        have c14b1 : (t245 != 0) = false := bne_eq_false_iff_eq.mpr c14
        clear c14
        by_cases c15 : t246 = 11
        ·rw [if_pos c15] at H
         have c15b0 : (t246 == 11) = true := beq_iff_eq.mpr c15
         have c15b1 : (t246 != 11) = false := bne_eq_false_iff_eq.mpr c15
         clear c15
         by_cases c16 : (t249.length : Int) = 1
         ·rw [if_pos c16] at H
          have c16b0 : ((t249.length : Int) == 1) = true := beq_iff_eq.mpr c16
          have c16b1 : ((t249.length : Int) != 1) = false := bne_eq_false_iff_eq.mpr c16
          clear c16
          by_cases c17 : 0 < (t249.length : Int)
          ·rw [if_pos c17] at H
           have c17b0 : decide (0 < (t249.length : Int)) = true := decide_eq_true c17
           have c17b1 : decide (0 < t249.length) = true := decide_eq_true (by omega)
           clear c17
           by_cases c18 : (((rd_T44 t249 0).f0) == 3 && (((rd_T44 t249 0).f1) == 0)) = true
           ·rw [if_pos c18] at H
            have c18b0 : (((rd_T44 t249 0).f0) == 3 && (((rd_T44 t249 0).f1) == 0)) = true := c18
            (try (have c18b1 : decide (((rd_T44 t249 0).f0) = 3 && (((rd_T44 t249 0).f1) == 0)) = true := by simpa using c18))
            (try (have c18b2 : (((rd_T44 t249 0).f0) == 3 && (((rd_T44 t249 0).f1) == 0)) = true := by simpa using c18))
            (try (have c18b3 : (!(((rd_T44 t249 0).f0) == 3) || (!(((rd_T44 t249 0).f1) == 0))) = false := by have e_ : (!(((rd_T44 t249 0).f0) == 3) || (!(((rd_T44 t249 0).f1) == 0))) = (!(((rd_T44 t249 0).f0) == 3 && (((rd_T44 t249 0).f1) == 0))) := (by simp only [Bool.not_or, Bool.not_and, Bool.not_not]); rw [e_]; first | (simp only [c18, Bool.not_true]; done) | (simp only [Bool.eq_false_iff.mpr c18, Bool.not_false]; done)))
            clear c18
            by_cases c19 : t250 = 0
            ·rw [if_pos c19] at H
             have c19b0 : (t250 == 0) = true := beq_iff_eq.mpr c19
             have c19b1 : (t250 != 0) = false := bne_eq_false_iff_eq.mpr c19
             clear c19
             by_cases c20 : (t253.length : Int) = 1
             ·rw [if_pos c20] at H
              have c20b0 : ((t253.length : Int) == 1) = true := beq_iff_eq.mpr c20
              have c20b1 : ((t253.length : Int) != 1) = false := bne_eq_false_iff_eq.mpr c20
              clear c20
              by_cases c21 : 0 < (t253.length : Int)
              ·rw [if_pos c21] at H
               have c21b0 : decide (0 < (t253.length : Int)) = true := decide_eq_true c21
               have c21b1 : decide (0 < t253.length) = true := decide_eq_true (by omega)
               clear c21
               by_cases c22 : ((rd_T23 t253 0).f0) = 5
               ·rw [if_pos c22] at H
                have c22b0 : (((rd_T23 t253 0).f0) == 5) = true := beq_iff_eq.mpr c22
                have c22b1 : (((rd_T23 t253 0).f0) != 5) = false := bne_eq_false_iff_eq.mpr c22
                clear c22
                obtain rfl := Option.some.inj H
                go_enter Tryd.func9, Tryd.ntmps9
                go_wp2_with (first | ((with_reducible refine gate_callee (f := 10) rfl ?_); refine goesL_ (some 18) rfl rfl Tryd.func10 (by kernel_rfl) rfl #[.agg #[.int .i64 3, .string (⟨#[]⟩ : ByteArray), .int .i64 0, .string (⟨#[107]⟩ : ByteArray), .string (⟨#[]⟩ : ByteArray)]] rfl am ?_; (with_reducible refine (segment_One.calls k 3 (⟨#[]⟩ : ByteArray) 0 (⟨#[107]⟩ : ByteArray) (⟨#[]⟩ : ByteArray) t235 t236 _ tbk A1.out).mono ?_); rintro e w23 ⟨rfl, hb⟩; refine ⟨_, rfl, ?_⟩; have n0_ := Aside0.mk (below_step bw hb); clear HB; have HB := n0_; clear n0_; (try clear hb); (try clear hb2); (try clear hk); (try clear hi)) | ((with_reducible refine gate_callee (f := 10) rfl ?_); refine goesL_ (some 23) rfl rfl Tryd.func10 (by kernel_rfl) rfl #[.agg #[.int .i64 5, .string (⟨#[]⟩ : ByteArray), .int .i64 0, .string (⟨#[]⟩ : ByteArray), .string (⟨#[]⟩ : ByteArray)]] rfl am ?_; (with_reducible refine (segment_One.calls k 5 (⟨#[]⟩ : ByteArray) 0 (⟨#[]⟩ : ByteArray) (⟨#[]⟩ : ByteArray) t237 t238 _ tbk A2.out).mono ?_); rintro e w24 ⟨rfl, hb⟩; refine ⟨_, rfl, ?_⟩; have n0_ := Aside0.mk (below_step bw hb); clear HB; have HB := n0_; clear n0_; (try clear hb); (try clear hb2); (try clear hk); (try clear hi)) | ((with_reducible refine gate_callee (f := 15) rfl ?_); refine goesL_ (some 30) rfl rfl Tryd.func15 (by kernel_rfl) rfl #[.int .i64 0, .string (t235 ++ t237)] rfl am ?_; (with_reducible refine (segment_Scan.calls k 0 (t235 ++ t237) t239 t240 t241 _ tbk A4.out).mono ?_); rintro e w25 ⟨v242, rfl, ho0, hb⟩; refine ⟨_, rfl, ?_⟩; have n0_ := Aside0.mk (Kd.R_lower ho0 (below_size bw)); have n1_ := Aside0.mk (below_step bw hb); clear HB; have HO243 := n0_; have HB := n1_; clear n0_ n1_; (try clear hb); (try clear hb2); (try clear hk); (try clear hi); (try clear ho0)) | ((with_reducible refine gate_callee (f := 15) rfl ?_); refine goesL_ (some 38) rfl rfl Tryd.func15 (by kernel_rfl) rfl #[.int .i64 4, .string (t235 ++ t237)] rfl am ?_; (with_reducible refine (segment_Scan.calls k 4 (t235 ++ t237) t244 t245 t246 _ tbk A5.out).mono ?_); rintro e w26 ⟨v247, rfl, ho0, hb⟩; refine ⟨_, rfl, ?_⟩; have n0_ := Aside0.mk (Kd.R_elder' (by (with_reducible repeat (first | apply Kd.R_alloc | apply Kd.R_drewN | apply Kd.R_drew)); exact HO243.out) (Kd.R_base ho0) hb); have n1_ := Aside0.mk (Kd.R_lower (Kd.R_new' ho0 (Kd.R_lt (by (with_reducible repeat (first | apply Kd.R_alloc | apply Kd.R_drewN | apply Kd.R_drew)); exact HO243.out))) (below_size bw)); have n2_ := Aside0.mk (below_step bw hb); clear HO243; clear HB; have HO243 := n0_; have HO248 := n1_; have HB := n2_; clear n0_ n1_ n2_; (try clear hb); (try clear hb2); (try clear hk); (try clear hi); (try clear ho0)) | ((with_reducible refine gate_callee (f := 17) rfl ?_); refine goesL_ (some 46) rfl rfl Tryd.func17 (by kernel_rfl) rfl #[.int .i64 0, .string (t235 ++ t237), .int .i64 2] rfl am ?_; (with_reducible refine (segment_Index.calls k 0 (t235 ++ t237) 2 t249 t250 _ tbk A6.out).mono ?_); rintro e w27 ⟨v251, rfl, ho0, hb⟩; refine ⟨_, rfl, ?_⟩; have n0_ := Aside0.mk (Kd.R_below (by (with_reducible repeat (first | apply Kd.R_alloc | apply Kd.R_drewN | apply Kd.R_drew)); exact HO243.out) hb); have n1_ := Aside0.mk (Kd.R_below (by (with_reducible repeat (first | apply Kd.R_alloc | apply Kd.R_drewN | apply Kd.R_drew)); exact HO248.out) hb); have n2_ := Aside0.mk (Kd.R_lower ho0 (below_size bw)); have n3_ := Aside0.mk (below_step bw hb); clear HO243; clear HO248; clear HB; have HO243 := n0_; have HO248 := n1_; have HO252 := n2_; have HB := n3_; clear n0_ n1_ n2_ n3_; (try clear hb); (try clear hb2); (try clear hk); (try clear hi); (try clear ho0); obtain ⟨Ao28, co28, eo28⟩ := Kd.R_slice HO252.out; subst eo28) | ((with_reducible refine gate_callee (f := 21) rfl ?_); refine goesL_ (some 53) rfl rfl Tryd.func21 (by kernel_rfl) rfl #[.int .i64 0, .string (t235 ++ t237), .slice Ao28 t249.length co28, .int .i64 5, .int .i64 1] rfl am ?_; (with_reducible refine (segment_From.calls k 0 (t235 ++ t237) _ _ t249 5 1 t253 _ ?side1 ?side2 tbk A7.out).mono ?_); (case side1 => repeat (first | exact (Kd.R_reads' HO252.out).2.2 | (with_reducible refine Kd.C_alloc ?_ _) | (with_reducible refine Kd.C_drewN ?_ _) | (with_reducible refine Kd.C_drew ?_))); (case side2 => exact (Kd.R_reads' HO252.out).2.1); rintro e w29 ⟨v254, rfl, ho0, hb⟩; refine ⟨_, rfl, ?_⟩; have n0_ := Aside0.mk (Kd.R_elder' (by (with_reducible repeat (first | apply Kd.R_alloc | apply Kd.R_drewN | apply Kd.R_drew)); exact HO243.out) (Kd.R_base ho0) hb); have n1_ := Aside0.mk (Kd.R_elder' (by (with_reducible repeat (first | apply Kd.R_alloc | apply Kd.R_drewN | apply Kd.R_drew)); exact HO248.out) (Kd.R_base ho0) hb); have n2_ := Aside0.mk (Kd.R_below (by (with_reducible repeat (first | apply Kd.R_alloc | apply Kd.R_drewN | apply Kd.R_drew)); exact HO252.out) hb); have n3_ := Aside0.mk (Kd.R_lower (Kd.R_new' (Kd.R_new' ho0 (Kd.R_lt (by (with_reducible repeat (first | apply Kd.R_alloc | apply Kd.R_drewN | apply Kd.R_drew)); exact HO243.out))) (Kd.R_lt (by (with_reducible repeat (first | apply Kd.R_alloc | apply Kd.R_drewN | apply Kd.R_drew)); exact HO248.out))) (below_size bw)); have n4_ := Aside0.mk (below_step bw hb); clear HO243; clear HO248; clear HO252; clear HB; have HO243 := n0_; have HO248 := n1_; have HO252 := n2_; have HO255 := n3_; have HB := n4_; clear n0_ n1_ n2_ n3_ n4_; (try clear hb); (try clear hb2); (try clear hk); (try clear hi); (try clear ho0)) | ((with_reducible refine gate_callee (f := 10) rfl ?_); refine goesL_ (some 56) rfl rfl Tryd.func10 (by kernel_rfl) rfl #[.agg #[.int .i64 (-1), .string (⟨#[]⟩ : ByteArray), .int .i64 0, .string (⟨#[]⟩ : ByteArray), .string (⟨#[]⟩ : ByteArray)]] rfl am ?_; (with_reducible refine (segment_One.calls k (-1) (⟨#[]⟩ : ByteArray) 0 (⟨#[]⟩ : ByteArray) (⟨#[]⟩ : ByteArray) t256 t257 _ tbk A8.out).mono ?_); rintro e w30 ⟨rfl, hb⟩; refine ⟨_, rfl, ?_⟩; have n0_ := Aside0.mk (Kd.R_below (by (with_reducible repeat (first | apply Kd.R_alloc | apply Kd.R_drewN | apply Kd.R_drew)); exact HO243.out) hb); have n1_ := Aside0.mk (Kd.R_below (by (with_reducible repeat (first | apply Kd.R_alloc | apply Kd.R_drewN | apply Kd.R_drew)); exact HO248.out) hb); have n2_ := Aside0.mk (Kd.R_below (by (with_reducible repeat (first | apply Kd.R_alloc | apply Kd.R_drewN | apply Kd.R_drew)); exact HO252.out) hb); have n3_ := Aside0.mk (Kd.R_below (by (with_reducible repeat (first | apply Kd.R_alloc | apply Kd.R_drewN | apply Kd.R_drew)); exact HO255.out) hb); have n4_ := Aside0.mk (below_step bw hb); clear HO243; clear HO248; clear HO252; clear HO255; clear HB; have HO243 := n0_; have HO248 := n1_; have HO252 := n2_; have HO255 := n3_; have HB := n4_; clear n0_ n1_ n2_ n3_ n4_; (try clear hb); (try clear hb2); (try clear hk); (try clear hi); obtain ⟨Ao31, co31, eo31⟩ := Kd.R_slice HO243.out; subst eo31; obtain ⟨Ao32, co32, eo32⟩ := Kd.R_slice HO248.out; subst eo32; have p258 : 0 ≤ (0 : Int) := (by omega); have q258 : 0 < (t249.length : Int) := of_decide_eq_true (by first | (with_reducible assumption) | assumption); obtain ⟨ad258, e258, hx258_0, hx258_1⟩ := at_T44 (Kd.R_reads' HO252.out).2.2 0 p258 q258; cases e258; have qi258 : (0 < t249.length) = True := eq_true (by omega); (try rw [show ((0 : Int)).toNat = 0 from rfl] at hx258_0); (try rw [show 0 * 2 = 0 from rfl] at hx258_0); (try rw [Addr.add_zero'] at hx258_0); (try rw [show ((0 : Int)).toNat = 0 from rfl] at hx258_1); (try rw [show 0 * 2 = 0 from rfl] at hx258_1); (try rw [Addr.add_zero'] at hx258_1); replace p258 := eq_true p258; replace q258 := eq_true q258; obtain ⟨Ao33, co33, eo33⟩ := Kd.R_slice HO255.out; subst eo33; have p259 : 0 ≤ (0 : Int) := (by omega); have q259 : 0 < (t253.length : Int) := of_decide_eq_true (by first | (with_reducible assumption) | assumption); obtain ⟨ad259, e259, hx259_0, hx259_1, hx259_2, hx259_3, hx259_4⟩ := at_T23 (Kd.R_reads' HO255.out).2.2 0 p259 q259; cases e259; have qi259 : (0 < t253.length) = True := eq_true (by omega); (try rw [show ((0 : Int)).toNat = 0 from rfl] at hx259_0); (try rw [show 0 * 5 = 0 from rfl] at hx259_0); (try rw [Addr.add_zero'] at hx259_0); (try rw [show ((0 : Int)).toNat = 0 from rfl] at hx259_1); (try rw [show 0 * 5 = 0 from rfl] at hx259_1); (try rw [Addr.add_zero'] at hx259_1); (try rw [show ((0 : Int)).toNat = 0 from rfl] at hx259_2); (try rw [show 0 * 5 = 0 from rfl] at hx259_2); (try rw [Addr.add_zero'] at hx259_2); (try rw [show ((0 : Int)).toNat = 0 from rfl] at hx259_3); (try rw [show 0 * 5 = 0 from rfl] at hx259_3); (try rw [Addr.add_zero'] at hx259_3); (try rw [show ((0 : Int)).toNat = 0 from rfl] at hx259_4); (try rw [show 0 * 5 = 0 from rfl] at hx259_4); (try rw [Addr.add_zero'] at hx259_4); replace p259 := eq_true p259; replace q259 := eq_true q259))
                go_ret
                exact ⟨er, bw⟩
               ·rw [if_neg c22] at H
                have c22b0 : (((rd_T23 t253 0).f0) == 5) = false := beq_eq_false_iff_ne.mpr c22
                have c22b1 : (((rd_T23 t253 0).f0) != 5) = true := bne_iff_ne.mpr c22
                exact absurd ((Option.some.inj H).trans hr_.out) (by decide)
              ·rw [if_neg c21] at H
               exact absurd H (by simp)
             ·rw [if_neg c20] at H
              have c20b0 : ((t253.length : Int) == 1) = false := beq_eq_false_iff_ne.mpr c20
              have c20b1 : ((t253.length : Int) != 1) = true := bne_iff_ne.mpr c20
              exact absurd ((Option.some.inj H).trans hr_.out) (by decide)
            ·rw [if_neg c19] at H
             have c19b0 : (t250 == 0) = false := beq_eq_false_iff_ne.mpr c19
             have c19b1 : (t250 != 0) = true := bne_iff_ne.mpr c19
             exact absurd ((Option.some.inj H).trans hr_.out) (by decide)
           ·rw [if_neg c18] at H
            have c18b0 : (((rd_T44 t249 0).f0) == 3 && (((rd_T44 t249 0).f1) == 0)) = false := by simpa using c18
            (try (have c18b1 : decide (((rd_T44 t249 0).f0) = 3 && (((rd_T44 t249 0).f1) == 0)) = false := by simpa using c18))
            (try (have c18b2 : (((rd_T44 t249 0).f0) == 3 && (((rd_T44 t249 0).f1) == 0)) = false := by simpa using c18))
            (try (have c18b3 : ¬ (((rd_T44 t249 0).f0) = 3 && (((rd_T44 t249 0).f1) == 0)) := by simpa using c18))
            (try (have c18b4 : (!(((rd_T44 t249 0).f0) == 3) || (!(((rd_T44 t249 0).f1) == 0))) = true := by have e_ : (!(((rd_T44 t249 0).f0) == 3) || (!(((rd_T44 t249 0).f1) == 0))) = (!(((rd_T44 t249 0).f0) == 3 && (((rd_T44 t249 0).f1) == 0))) := (by simp only [Bool.not_or, Bool.not_and, Bool.not_not]); rw [e_]; first | (simp only [c18, Bool.not_true]; done) | (simp only [Bool.eq_false_iff.mpr c18, Bool.not_false]; done)))
            clear c18
            exact absurd ((Option.some.inj H).trans hr_.out) (by decide)
          ·rw [if_neg c17] at H
           exact absurd H (by simp)
         ·rw [if_neg c16] at H
          have c16b0 : ((t249.length : Int) == 1) = false := beq_eq_false_iff_ne.mpr c16
          have c16b1 : ((t249.length : Int) != 1) = true := bne_iff_ne.mpr c16
          exact absurd ((Option.some.inj H).trans hr_.out) (by decide)
        ·rw [if_neg c15] at H
         have c15b0 : (t246 == 11) = false := beq_eq_false_iff_ne.mpr c15
         have c15b1 : (t246 != 11) = true := bne_iff_ne.mpr c15
         exact absurd ((Option.some.inj H).trans hr_.out) (by decide)
       ·rw [if_neg c14] at H
        have c14b0 : (t245 == 0) = false := beq_eq_false_iff_ne.mpr c14
        have c14b1 : (t245 != 0) = true := bne_iff_ne.mpr c14
        exact absurd ((Option.some.inj H).trans hr_.out) (by decide)
      ·rw [if_neg c13] at H
       have c13b0 : ((t244.length : Int) == 0) = false := beq_eq_false_iff_ne.mpr c13
       have c13b1 : ((t244.length : Int) != 0) = true := bne_iff_ne.mpr c13
       have c13b2 : ¬ (t244 = []) := fun h_ => c13 (by rw [h_]; rfl)
       exact absurd ((Option.some.inj H).trans hr_.out) (by decide)
     ·rw [if_neg c12] at H
      have c12b0 : (t241 == 0) = false := beq_eq_false_iff_ne.mpr c12
      have c12b1 : (t241 != 0) = true := bne_iff_ne.mpr c12
      exact absurd ((Option.some.inj H).trans hr_.out) (by decide)
    ·rw [if_neg c11] at H
     have c11b0 : (t240 == ((t235.size : Int) + (t237.size : Int))) = false := beq_eq_false_iff_ne.mpr c11
     have c11b1 : (t240 != ((t235.size : Int) + (t237.size : Int))) = true := bne_iff_ne.mpr c11
     exact absurd ((Option.some.inj H).trans hr_.out) (by decide)
   ·rw [if_neg c10] at H
    have c10b0 : ((t239.length : Int) == 2) = false := beq_eq_false_iff_ne.mpr c10
    have c10b1 : ((t239.length : Int) != 2) = true := bne_iff_ne.mpr c10
    exact absurd ((Option.some.inj H).trans hr_.out) (by decide)
  ·rw [if_neg c9] at H
   have c9b0 : (t236 == 0) = false := beq_eq_false_iff_ne.mpr c9
   have c9b1 : (t236 != 0) = true := bne_iff_ne.mpr c9
   exact absurd ((Option.some.inj H).trans hr_.out) (by decide)
 ·rw [if_neg c3] at H
  exact absurd H (by simp)
theorem carillonlaw06_examples.g_true : carillonlaw06_examples.g 300 = some true := by kernel_rfl
def carillonlaw06_examples.f : Option (Bool) := some true
theorem carillonlaw06_examples.calls (r : Bool) (w : World) (HT_ : TabOk w) (h : carillonlaw06_examples.f = some r) :
  Calls Tryd.prog 9 #[] w fun e w' => e = .returned (.bool r) ∧ Below w.heap.size w w' := by
 obtain rfl := Option.some.inj h
 exact carillonlaw06_examples.calls0 _ true w ⟨rfl⟩ HT_ carillonlaw06_examples.g_true

end Go.Proofs.YtmjgifhgodgghaaDoor.P
