-- Printed by this session's program wip/xp.py (a turned copy of the kit's printer): functions, their contracts.
import Derived.Test.YtdpogggajdfedaaDoorPx0
import Derived.Test.YtdpogggajdfedaaDoorPx6
namespace Go.Proofs.YtdpogggajdfedaaDoor.P
open Go.RowKit Go.Proofs.YtdpogggajdfedaaDoorW.PrintWords Go.Proofs.YtdpogggajdfedaaDoorW.PrintLast Go.Proofs.YtdpogggajdfedaaDoorW.PrintMore
attribute [local go_sem] max2_int min2_int max_two min_two max_three min_three max_four min_four   -- for this text's walks alone
set_option linter.unusedVariables false
set_option linter.unusedSimpArgs false

/-! ### codec_Decode: function 22 -/
mutual
def codec_Decode.l0 : Nat → ByteArray → Int → List (S50) → Int → ByteArray → Int → Option ((List (S50)) × Int)
 | 0, _, _, _, _, _, _ => none
 | k + 1, x0, x6, x8, x9, x204000, x204001 => if x9 = (x0.size : Int) then (codec_Decode.j1 k x0 x6 x8 x9 (decide (x6 ≥ 0)) x204000 x204001) else (codec_Decode.j1 k x0 x6 x8 x9 false x204000 x204001)
def codec_Decode.j1 : Nat → ByteArray → Int → List (S50) → Int → Bool → ByteArray → Int → Option ((List (S50)) × Int)
 | 0, _, _, _, _, _, _, _ => none
 | k + 1, x0, x6, x8, x9, x25, x204000, x204001 => if x25 = true then (codec_Decode.j2 k x0 x6 x8 x6 x204000 x204001) else (codec_Decode.j2 k x0 x6 x8 x9 x204000 x204001)
def codec_Decode.j2 : Nat → ByteArray → Int → List (S50) → Int → ByteArray → Int → Option ((List (S50)) × Int)
 | 0, _, _, _, _, _, _ => none
 | k + 1, x0, x6, x8, x9, x204000, x204001 => if x9 = x6 then (codec_Decode.j3 k x0 x6 x8 x9 (decide (x6 ≥ 0)) x204000 x204001) else (codec_Decode.j3 k x0 x6 x8 x9 false x204000 x204001)
def codec_Decode.j3 : Nat → ByteArray → Int → List (S50) → Int → Bool → ByteArray → Int → Option ((List (S50)) × Int)
 | 0, _, _, _, _, _, _, _ => none
 | k + 1, x0, x6, x8, x9, x33, x204000, x204001 => if x33 = true then (if x204000.toList = ([] : List UInt8) then (some (x8, 0)) else (codec_Decode.j4 k x0 x6 x8 (wrap64 (x9 + 1)) x204000 x204001)) else (codec_Decode.j4 k x0 x6 x8 x9 x204000 x204001)
def codec_Decode.j4 : Nat → ByteArray → Int → List (S50) → Int → ByteArray → Int → Option ((List (S50)) × Int)
 | 0, _, _, _, _, _, _ => none
 | k + 1, x0, x6, x8, x9, x204000, x204001 => if x9 < (x0.size : Int) then (if 0 ≤ x9 then ((strings_IndexByte.f (⟨#[98, 119, 108, 116]⟩ : ByteArray) (bt x0 x9)).bind fun t204 => (if (x8.length : Int) = 1000 then (some (([] : List (S50)), 3)) else (if (wrap64 (1 + t204)) = 4 then ((codec_reader_text.f x204000 x204001).bind fun bt206 => (codec_Decode.j5 k x0 x6 x8 x9 bt206.2.1 bt206.2.2 (wrap64 (1 + t204)) 0 bt206.1)) else (if 0 ≤ (wrap64 (1 + t204)) then (if (wrap64 (1 + t204)) < 5 then ((codec_reader_number.f x204000 x204001 (rd sizTabI (wrap64 (1 + t204)))).bind fun bt210 => (codec_Decode.j5 k x0 x6 x8 x9 bt210.2.1 bt210.2.2 (wrap64 (1 + t204)) bt210.1 (⟨#[]⟩ : ByteArray))) else (none)) else (none))))) else (none)) else (if x204000.toList = ([] : List UInt8) then (some (x8, 0)) else (some (([] : List (S50)), 10)))
def codec_Decode.j5 : Nat → ByteArray → Int → List (S50) → Int → ByteArray → Int → Int → Int → ByteArray → Option ((List (S50)) × Int)
 | 0, _, _, _, _, _, _, _, _, _ => none
 | k + 1, x0, x6, x8, x9, x204000, x204001, x206000, x206001, x206002 => if x204001 = 0 then (if x8.length < 4398046511104 then (codec_Decode.l0 k x0 x6 (x8 ++ [(⟨x206000, x206001, x206002⟩ : S50)]) (wrap64 (x9 + 1)) x204000 x204001) else (none)) else (some (([] : List (S50)), x204001))
end
def codec_Decode.f (k : Nat) (a0 : ByteArray) (a1 : ByteArray) : Option ((List (S50)) × Int) := (codec_right.f a0).bind fun t201 => (if t201 = true then ((strings_IndexByte.f a0 42).bind fun t202 => (codec_Decode.l0 k a0 t202 ([] : List (S50)) 0 a1 0)) else (some (([] : List (S50)), 1)))
theorem codec_Decode.mono_l : ∀ k, (∀ y0 y1 y2 y3 y4 y5, LeO (codec_Decode.l0 k y0 y1 y2 y3 y4 y5) (codec_Decode.l0 (k + 1) y0 y1 y2 y3 y4 y5)) ∧ (∀ y0 y1 y2 y3 y4 y5 y6, LeO (codec_Decode.j1 k y0 y1 y2 y3 y4 y5 y6) (codec_Decode.j1 (k + 1) y0 y1 y2 y3 y4 y5 y6)) ∧ (∀ y0 y1 y2 y3 y4 y5, LeO (codec_Decode.j2 k y0 y1 y2 y3 y4 y5) (codec_Decode.j2 (k + 1) y0 y1 y2 y3 y4 y5)) ∧ (∀ y0 y1 y2 y3 y4 y5 y6, LeO (codec_Decode.j3 k y0 y1 y2 y3 y4 y5 y6) (codec_Decode.j3 (k + 1) y0 y1 y2 y3 y4 y5 y6)) ∧ (∀ y0 y1 y2 y3 y4 y5, LeO (codec_Decode.j4 k y0 y1 y2 y3 y4 y5) (codec_Decode.j4 (k + 1) y0 y1 y2 y3 y4 y5)) ∧ (∀ y0 y1 y2 y3 y4 y5 y6 y7 y8, LeO (codec_Decode.j5 k y0 y1 y2 y3 y4 y5 y6 y7 y8) (codec_Decode.j5 (k + 1) y0 y1 y2 y3 y4 y5 y6 y7 y8))
 | 0 => ⟨fun _ _ _ _ _ _ r h => by simp [codec_Decode.l0] at h, fun _ _ _ _ _ _ _ r h => by simp [codec_Decode.j1] at h, fun _ _ _ _ _ _ r h => by simp [codec_Decode.j2] at h, fun _ _ _ _ _ _ _ r h => by simp [codec_Decode.j3] at h, fun _ _ _ _ _ _ r h => by simp [codec_Decode.j4] at h, fun _ _ _ _ _ _ _ _ _ r h => by simp [codec_Decode.j5] at h⟩
 | k + 1 => by
  obtain ⟨ih0, ih1, ih2, ih3, ih4, ih5⟩ := codec_Decode.mono_l k
  refine ⟨?_, ?_, ?_, ?_, ?_, ?_⟩
  ·intro y0 y1 y2 y3 y4 y5
   unfold codec_Decode.l0
   repeat' first
   | (with_reducible exact ih0 _ _ _ _ _ _)
   | (with_reducible exact ih1 _ _ _ _ _ _ _)
   | (with_reducible exact ih2 _ _ _ _ _ _)
   | (with_reducible exact ih3 _ _ _ _ _ _ _)
   | (with_reducible exact ih4 _ _ _ _ _ _)
   | (with_reducible exact ih5 _ _ _ _ _ _ _ _ _)
   | (with_reducible exact LeO.refl _)
   | (with_reducible exact LeO.none _)
   | (with_reducible refine LeO.ite ?_ ?_)
   | (with_reducible refine LeO.bind ?_ (fun _ => ?_))
   | exact ih0 _ _ _ _ _ _
   | exact ih1 _ _ _ _ _ _ _
   | exact ih2 _ _ _ _ _ _
   | exact ih3 _ _ _ _ _ _ _
   | exact ih4 _ _ _ _ _ _
   | exact ih5 _ _ _ _ _ _ _ _ _
   | exact LeO.none _
   | refine LeO.ite ?_ ?_
   | refine LeO.bind ?_ (fun _ => ?_)
  ·intro y0 y1 y2 y3 y4 y5 y6
   unfold codec_Decode.j1
   repeat' first
   | (with_reducible exact ih0 _ _ _ _ _ _)
   | (with_reducible exact ih1 _ _ _ _ _ _ _)
   | (with_reducible exact ih2 _ _ _ _ _ _)
   | (with_reducible exact ih3 _ _ _ _ _ _ _)
   | (with_reducible exact ih4 _ _ _ _ _ _)
   | (with_reducible exact ih5 _ _ _ _ _ _ _ _ _)
   | (with_reducible exact LeO.refl _)
   | (with_reducible exact LeO.none _)
   | (with_reducible refine LeO.ite ?_ ?_)
   | (with_reducible refine LeO.bind ?_ (fun _ => ?_))
   | exact ih0 _ _ _ _ _ _
   | exact ih1 _ _ _ _ _ _ _
   | exact ih2 _ _ _ _ _ _
   | exact ih3 _ _ _ _ _ _ _
   | exact ih4 _ _ _ _ _ _
   | exact ih5 _ _ _ _ _ _ _ _ _
   | exact LeO.none _
   | refine LeO.ite ?_ ?_
   | refine LeO.bind ?_ (fun _ => ?_)
  ·intro y0 y1 y2 y3 y4 y5
   unfold codec_Decode.j2
   repeat' first
   | (with_reducible exact ih0 _ _ _ _ _ _)
   | (with_reducible exact ih1 _ _ _ _ _ _ _)
   | (with_reducible exact ih2 _ _ _ _ _ _)
   | (with_reducible exact ih3 _ _ _ _ _ _ _)
   | (with_reducible exact ih4 _ _ _ _ _ _)
   | (with_reducible exact ih5 _ _ _ _ _ _ _ _ _)
   | (with_reducible exact LeO.refl _)
   | (with_reducible exact LeO.none _)
   | (with_reducible refine LeO.ite ?_ ?_)
   | (with_reducible refine LeO.bind ?_ (fun _ => ?_))
   | exact ih0 _ _ _ _ _ _
   | exact ih1 _ _ _ _ _ _ _
   | exact ih2 _ _ _ _ _ _
   | exact ih3 _ _ _ _ _ _ _
   | exact ih4 _ _ _ _ _ _
   | exact ih5 _ _ _ _ _ _ _ _ _
   | exact LeO.none _
   | refine LeO.ite ?_ ?_
   | refine LeO.bind ?_ (fun _ => ?_)
  ·intro y0 y1 y2 y3 y4 y5 y6
   unfold codec_Decode.j3
   repeat' first
   | (with_reducible exact ih0 _ _ _ _ _ _)
   | (with_reducible exact ih1 _ _ _ _ _ _ _)
   | (with_reducible exact ih2 _ _ _ _ _ _)
   | (with_reducible exact ih3 _ _ _ _ _ _ _)
   | (with_reducible exact ih4 _ _ _ _ _ _)
   | (with_reducible exact ih5 _ _ _ _ _ _ _ _ _)
   | (with_reducible exact LeO.refl _)
   | (with_reducible exact LeO.none _)
   | (with_reducible refine LeO.ite ?_ ?_)
   | (with_reducible refine LeO.bind ?_ (fun _ => ?_))
   | exact ih0 _ _ _ _ _ _
   | exact ih1 _ _ _ _ _ _ _
   | exact ih2 _ _ _ _ _ _
   | exact ih3 _ _ _ _ _ _ _
   | exact ih4 _ _ _ _ _ _
   | exact ih5 _ _ _ _ _ _ _ _ _
   | exact LeO.none _
   | refine LeO.ite ?_ ?_
   | refine LeO.bind ?_ (fun _ => ?_)
  ·intro y0 y1 y2 y3 y4 y5
   unfold codec_Decode.j4
   repeat' first
   | (with_reducible exact ih0 _ _ _ _ _ _)
   | (with_reducible exact ih1 _ _ _ _ _ _ _)
   | (with_reducible exact ih2 _ _ _ _ _ _)
   | (with_reducible exact ih3 _ _ _ _ _ _ _)
   | (with_reducible exact ih4 _ _ _ _ _ _)
   | (with_reducible exact ih5 _ _ _ _ _ _ _ _ _)
   | (with_reducible exact LeO.refl _)
   | (with_reducible exact LeO.none _)
   | (with_reducible refine LeO.ite ?_ ?_)
   | (with_reducible refine LeO.bind ?_ (fun _ => ?_))
   | exact ih0 _ _ _ _ _ _
   | exact ih1 _ _ _ _ _ _ _
   | exact ih2 _ _ _ _ _ _
   | exact ih3 _ _ _ _ _ _ _
   | exact ih4 _ _ _ _ _ _
   | exact ih5 _ _ _ _ _ _ _ _ _
   | exact LeO.none _
   | refine LeO.ite ?_ ?_
   | refine LeO.bind ?_ (fun _ => ?_)
  ·intro y0 y1 y2 y3 y4 y5 y6 y7 y8
   unfold codec_Decode.j5
   repeat' first
   | (with_reducible exact ih0 _ _ _ _ _ _)
   | (with_reducible exact ih1 _ _ _ _ _ _ _)
   | (with_reducible exact ih2 _ _ _ _ _ _)
   | (with_reducible exact ih3 _ _ _ _ _ _ _)
   | (with_reducible exact ih4 _ _ _ _ _ _)
   | (with_reducible exact ih5 _ _ _ _ _ _ _ _ _)
   | (with_reducible exact LeO.refl _)
   | (with_reducible exact LeO.none _)
   | (with_reducible refine LeO.ite ?_ ?_)
   | (with_reducible refine LeO.bind ?_ (fun _ => ?_))
   | exact ih0 _ _ _ _ _ _
   | exact ih1 _ _ _ _ _ _ _
   | exact ih2 _ _ _ _ _ _
   | exact ih3 _ _ _ _ _ _ _
   | exact ih4 _ _ _ _ _ _
   | exact ih5 _ _ _ _ _ _ _ _ _
   | exact LeO.none _
   | refine LeO.ite ?_ ?_
   | refine LeO.bind ?_ (fun _ => ?_)
theorem codec_Decode.mono : ∀ a0 a1 k, LeO (codec_Decode.f k a0 a1) (codec_Decode.f (k + 1) a0 a1) := by
 intro a0 a1 k
 obtain ⟨ih0, ih1, ih2, ih3, ih4, ih5⟩ := codec_Decode.mono_l k
 unfold codec_Decode.f
 repeat' first
   | (with_reducible exact ih0 _ _ _ _ _ _)
   | (with_reducible exact ih1 _ _ _ _ _ _ _)
   | (with_reducible exact ih2 _ _ _ _ _ _)
   | (with_reducible exact ih3 _ _ _ _ _ _ _)
   | (with_reducible exact ih4 _ _ _ _ _ _)
   | (with_reducible exact ih5 _ _ _ _ _ _ _ _ _)
   | (with_reducible exact LeO.refl _)
   | (with_reducible exact LeO.none _)
   | (with_reducible refine LeO.ite ?_ ?_)
   | (with_reducible refine LeO.bind ?_ (fun _ => ?_))
   | exact ih0 _ _ _ _ _ _
   | exact ih1 _ _ _ _ _ _ _
   | exact ih2 _ _ _ _ _ _
   | exact ih3 _ _ _ _ _ _ _
   | exact ih4 _ _ _ _ _ _
   | exact ih5 _ _ _ _ _ _ _ _ _
   | exact LeO.none _
   | refine LeO.ite ?_ ?_
   | refine LeO.bind ?_ (fun _ => ?_)
set_option maxHeartbeats 8000000 in
set_option maxRecDepth 100000 in
theorem codec_Decode.calls (k : Nat) (a0 : ByteArray) (a1 : ByteArray) (r1 : List (S50)) (r2 : Int) (w : World) (HT_ : TabOk w) (h : codec_Decode.f k a0 a1 = some (r1, r2)) :
  Calls Tryd.prog 22 #[.string a0, .string a1] w fun e w' => ∃ v0_ : Value, e = .returned (.tuple #[v0_, .int .i64 r2]) ∧ Kd.R k50 50 w' w.heap.size (fun _ => True) v0_ r1 ∧ Below w.heap.size w w' := by
 have HT := Aside0.mk HT_
 have HRGsiz := Aside0.mk HT_.sizC
 clear HT_
 have hu83 := Tryd.underlying83
 have hu50 := Tryd.underlying50
 have HB := Aside0.mk (Below.refl w.heap.size w)
 have H : ((codec_right.f a0).bind fun t201 => (if t201 = true then ((strings_IndexByte.f a0 42).bind fun t202 => (codec_Decode.l0 k a0 t202 ([] : List (S50)) 0 a1 0)) else (some (([] : List (S50)), 1)))) = some (r1, r2) := h
 clear h
 replace H := Option.bind_eq_some_iff.mp H
 obtain ⟨t201, A30, H⟩ := H
 replace H : (if t201 = true then ((strings_IndexByte.f a0 42).bind fun t202 => (codec_Decode.l0 k a0 t202 ([] : List (S50)) 0 a1 0)) else (some (([] : List (S50)), 1))) = some (r1, r2) := H
 have A3 := Aside0.mk A30
 clear A30
 by_cases c4 : t201 = true; rotate_left
 ·replace c4 := Bool.eq_false_iff.mpr c4
  subst c4
  have H1 : (some (([] : List (S50)), 1)) = some (r1, r2) := by rw [if_neg (show ¬ (false = true) by decide)] at H; exact H
  clear H
  have H := H1
  clear H1
  simp only [Option.some.injEq, Prod.mk.injEq] at H
  obtain ⟨rfl, rfl⟩ := H
  go_enter Tryd.func22, Tryd.ntmps22
  first | refine wp_scope_enter 0 rfl ?_ | (go_wp2; refine wp_scope_enter 0 rfl ?_)
  go_wp2_with (first | (go_at_call 37; (with_reducible refine (codec_right.calls a0 false _ A3.out).mono ?_); rintro e w57 ⟨rfl, hb⟩; have n0_ := Aside0.mk (below_step bw hb); clear HB; have HB := n0_; clear n0_; (try clear hb)))
  (try simp only [Exit.jump])
  go_ret2
  exact ⟨_, er, by first | exact Kd.R_nil _ _ _ _ _ | exact Kd.N_nil _ _ _ _ _ | exact Kd.V_nil _ _ _ _ _ | exact Kd.Q_nil _ _ _ _ _ | exact Kd.S_nil _ _ _ _ _, bw⟩
 subst c4
 have H1 : ((strings_IndexByte.f a0 42).bind fun t202 => (codec_Decode.l0 k a0 t202 ([] : List (S50)) 0 a1 0)) = some (r1, r2) := by rw [if_pos rfl] at H; exact H
 clear H
 have H := H1
 clear H1
 replace H := Option.bind_eq_some_iff.mp H
 obtain ⟨t202, A50, H⟩ := H
 replace H : (codec_Decode.l0 k a0 t202 ([] : List (S50)) 0 a1 0) = some (r1, r2) := H
 have A5 := Aside0.mk A50
 clear A50
 have H' := Aside0.mk H
 clear H
 go_enter Tryd.func22, Tryd.ntmps22
 first | refine wp_scope_enter 0 rfl ?_ | (go_wp2; refine wp_scope_enter 0 rfl ?_)
 go_wp2_with (first | (go_at_call 37; (with_reducible refine (codec_right.calls a0 true _ A3.out).mono ?_); rintro e w6 ⟨rfl, hb⟩; have n0_ := Aside0.mk (below_step bw hb); clear HB; have HB := n0_; clear n0_; (try clear hb)) | (go_at_call 38; (with_reducible refine (strings_IndexByte.calls a0 42 t202 _ A5.out).mono ?_); rintro e w' ⟨rfl, ⟨nd, rfl⟩⟩; (try first | exact ⟨rfl, _, World.drewN_drewN _ _ _⟩ | exact ⟨rfl, _, Eq.trans (World.drewN_drewN _ _ _) (congrArg (World.drewN _) (Nat.add_assoc _ _ _))⟩)) | ((with_reducible refine gate_dst (N := 7) rfl ?_); refine box_event ?hg (N := 7) ?hd (cs := #[.string (⟨#[]⟩ : ByteArray), .int .i64 0]) (t := 83) ?hr ?_; (case hd => rfl); (case hg => rfl); (case hr => first | (go_simp; done) | (go_simp; rfl)); intro ae hg w7 hbox hb; have n0_ := Aside0.mk (below_step bw hb); have n1_ := Aside0.mk ((show IsS83 w w7 ae (⟨#[]⟩ : ByteArray) 0 from ⟨hbox, by rw [hg]; exact (below_size bw)⟩)); clear HB; have HB := n0_; have HI203 := n1_; clear n0_ n1_; clear hb hbox hg; obtain ⟨HGz8, hgz8⟩ := HI203.out; have aj := cellS83_0 HGz8; have ak := cellS83_1 HGz8; have al := blk_frozen HGz8 0; have an := blk_frozen HGz8 1; clear HGz8 hgz8))
 go_step3
 rename_i hK_
 refine hK_ _ _ ?_
 refine wp_label_ghost_k (fun kq a' w' => ∃ (u1 u2 u3 u4 u5 u8 u9 u10 u11 u12 u13 u14 u15 u16 u17 u18 u19 u20 u21 u22 u23 u24 u25 u26 u27 u28 u29 u30 u31 u32 u33 u34 u35 u36 u37 u38 u39 u40 u41 u42 u43 u44 u45 u46 u47 u48 u49 u50 u51 u52 u53 u54 u55 u56 u57 u58 u59 u60 u61 u62 u63 u64 u65 u66 u67 u68 u69 u70 u71 u72 u73 u74 u75 u76 u77 u78 : Value), (∃ (x8_1 : List (S50)) (x9_1 : Int) (x204000_1 : ByteArray) (x204001_1 : Int), u9 = .int .i64 x9_1 ∧ Aside0 (codec_Decode.l0 kq a0 t202 x8_1 x9_1 x204000_1 x204001_1 = some (r1, r2)) ∧ Aside0 (kq ≤ k) ∧ Aside0 (Kd.R k50 50 w' w.heap.size (fun _ => True) u8 x8_1) ∧ Aside0 (IsS83 w w' ae x204000_1 x204001_1) ∧ Aside0 (Below w.heap.size w w')) ∧ a' = { tmps := #[.string a0, u1, u2, u3, u4, u5, .int .i64 t202, .pointer (some ⟨ae, 0, none⟩), u8, u9, u10, u11, u12, u13, u14, u15, u16, u17, u18, u19, u20, u21, u22, u23, u24, u25, u26, u27, u28, u29, u30, u31, u32, u33, u34, u35, u36, u37, u38, u39, u40, u41, u42, u43, u44, u45, u46, u47, u48, u49, u50, u51, u52, u53, u54, u55, u56, u57, u58, u59, u60, u61, u62, u63, u64, u65, u66, u67, u68, u69, u70, u71, u72, u73, u74, u75, u76, u77, u78], defers := [] }) k rfl ?_ ?_
 ·(repeat apply Exists.intro); refine ⟨?_, rfl⟩; exact ⟨(([] : List (S50))), (0), (a1), (0), (by first | rfl | (simp; done) | (simp [*]; done)), H', ⟨Nat.le_refl _⟩, ⟨by first | exact Kd.R_nil _ _ _ _ _ | exact Kd.N_nil _ _ _ _ _ | exact Kd.V_nil _ _ _ _ _ | exact Kd.Q_nil _ _ _ _ _ | exact Kd.S_nil _ _ _ _ _⟩, ⟨by repeat (first | (with_reducible first | exact HI203.out | apply IsS83.alloc | apply IsS83.drewN | apply IsS83.drew | apply IsS83.set_0 | apply IsS83.set_1) | exact HI203.out)⟩, ⟨by repeat (first | (with_reducible first | exact HB.out | apply below_alloc | apply pw_below_drewN | apply below_drew1 | refine below_set ?_ (IsS83.ge HI203.out)) | exact HB.out)⟩⟩
 ·intro gk _ wr hinv
  obtain ⟨u1, u2, u3, u4, u5, u8, u9, u10, u11, u12, u13, u14, u15, u16, u17, u18, u19, u20, u21, u22, u23, u24, u25, u26, u27, u28, u29, u30, u31, u32, u33, u34, u35, u36, u37, u38, u39, u40, u41, u42, u43, u44, u45, u46, u47, u48, u49, u50, u51, u52, u53, u54, u55, u56, u57, u58, u59, u60, u61, u62, u63, u64, u65, u66, u67, u68, u69, u70, u71, u72, u73, u74, u75, u76, u77, u78, hrel, ha⟩ := hinv
  subst ha
  (try dsimp only)
  intro _ _ _ _
  clear H'
  try clear c2
  try clear p2
  try clear p3
  try clear c4
  try clear aj ak
  try clear al an
  obtain ⟨x8_1, x9_1, x204000_1, x204001_1, rfl, HA, HK1, ad, HI203, HB⟩ := hrel
  cases gk with
  | zero => exact absurd HA.out (by simp [codec_Decode.l0])
  | succ k1 =>
   have H := HA.out
   clear HA
   simp only [codec_Decode.l0] at H
   have HC9 := Aside0.mk H
   clear H
   go_upto_region 7 with (fail)
   go_cut [25] (fun v25 wc => ∃ (kq : Nat) (x25_8 : Bool), v25 = .bool x25_8 ∧ Aside0 (codec_Decode.j1 kq a0 t202 x8_1 x9_1 x25_8 x204000_1 x204001_1 = some (r1, r2)) ∧ Aside0 (kq ≤ k1) ∧ Aside0 (Kd.R k50 50 wc w.heap.size (fun _ => True) u8 x8_1) ∧ Aside0 (IsS83 w wc ae x204000_1 x204001_1) ∧ Aside0 (Below w.heap.size w wc))
   case first =>
    have H := HC9.out
    clear HC9
    by_cases c10 : x9_1 = (a0.size : Int); rotate_left
    ·rw [if_neg c10] at H
     have ah : (x9_1 == (a0.size : Int)) = false := beq_eq_false_iff_ne.mpr c10
     have ar : (x9_1 != (a0.size : Int)) = true := bne_iff_ne.mpr c10
     (first | rw [ah] | (simp only [i64_w, i32_w]; rw [ah]) | skip)
     have H' := Aside0.mk H
     clear H
     go_wp2
     go_meet
     case rel => exact ⟨_, (false), (by first | rfl | (simp; done) | (simp [*]; done)), H', ⟨by have := HK1.out; first | omega | exact Nat.le_refl _⟩, ⟨by (with_reducible repeat (first | apply Kd.R_alloc | apply Kd.R_drewN | apply Kd.R_drew)); exact ad.out⟩, ⟨by repeat (first | (with_reducible first | exact HI203.out | apply IsS83.alloc | apply IsS83.drewN | apply IsS83.drew | apply IsS83.set_0 | apply IsS83.set_1) | exact HI203.out)⟩, ⟨by repeat (first | (with_reducible first | exact HB.out | apply below_alloc | apply pw_below_drewN | apply below_drew1 | refine below_set ?_ (IsS83.ge HI203.out)) | exact HB.out)⟩⟩
    rw [if_pos c10] at H
    have ah : (x9_1 == (a0.size : Int)) = true := beq_iff_eq.mpr c10
    have ar : (x9_1 != (a0.size : Int)) = false := bne_eq_false_iff_eq.mpr c10
    clear c10
    (first | rw [ah] | (simp only [i64_w, i32_w]; rw [ah]) | skip)
    have H' := Aside0.mk H
    clear H
    go_wp2
    go_meet
    case rel => exact ⟨_, (decide (t202 ≥ 0)), (by first | rfl | (simp; done) | (simp [*]; done)), H', ⟨by have := HK1.out; first | omega | exact Nat.le_refl _⟩, ⟨by (with_reducible repeat (first | apply Kd.R_alloc | apply Kd.R_drewN | apply Kd.R_drew)); exact ad.out⟩, ⟨by repeat (first | (with_reducible first | exact HI203.out | apply IsS83.alloc | apply IsS83.drewN | apply IsS83.drew | apply IsS83.set_0 | apply IsS83.set_1) | exact HI203.out)⟩, ⟨by repeat (first | (with_reducible first | exact HB.out | apply below_alloc | apply pw_below_drewN | apply below_drew1 | refine below_set ?_ (IsS83.ge HI203.out)) | exact HB.out)⟩⟩
   case rest =>
    clear HC9
    try clear c1
    try clear c2
    try clear p2
    try clear p3
    try clear c4
    try clear c10
    try clear ah
    try clear ar
    try clear aj ak
    try clear al an
    try clear p2
    try clear p3
    obtain ⟨kq, x25_8, rfl, HA, HJ8, ad, HI203, HB⟩ := hcut
    cases kq with
    | zero => exact absurd HA.out (by simp [codec_Decode.j1])
    | succ kj8 =>
     have H := HA.out
     clear HA
     simp only [codec_Decode.j1] at H
     have HC11 := Aside0.mk H
     clear H
     go_upto_if 25 with (fail)
     go_cut [9] (fun v9 wc => ∃ (kq : Nat) (x9_10 : Int), v9 = .int .i64 x9_10 ∧ Aside0 (codec_Decode.j2 kq a0 t202 x8_1 x9_10 x204000_1 x204001_1 = some (r1, r2)) ∧ Aside0 (kq ≤ kj8) ∧ Aside0 (Kd.R k50 50 wc w.heap.size (fun _ => True) u8 x8_1) ∧ Aside0 (IsS83 w wc ae x204000_1 x204001_1) ∧ Aside0 (Below w.heap.size w wc))
     case first =>
      have H := HC11.out
      clear HC11
      by_cases c12 : x25_8 = true
      ·subst c12
       have H1 : (codec_Decode.j2 kj8 a0 t202 x8_1 t202 x204000_1 x204001_1) = some (r1, r2) := by rw [if_pos rfl] at H; exact H
       clear H
       have H := H1
       clear H1
       have H' := Aside0.mk H
       clear H
       go_wp2
       go_meet
       case rel => exact ⟨_, (t202), (by first | rfl | (simp; done) | (simp [*]; done)), H', ⟨by have := HK1.out; have := HJ8.out; first | omega | exact Nat.le_refl _⟩, ⟨by (with_reducible repeat (first | apply Kd.R_alloc | apply Kd.R_drewN | apply Kd.R_drew)); exact ad.out⟩, ⟨by repeat (first | (with_reducible first | exact HI203.out | apply IsS83.alloc | apply IsS83.drewN | apply IsS83.drew | apply IsS83.set_0 | apply IsS83.set_1) | exact HI203.out)⟩, ⟨by repeat (first | (with_reducible first | exact HB.out | apply below_alloc | apply pw_below_drewN | apply below_drew1 | refine below_set ?_ (IsS83.ge HI203.out)) | exact HB.out)⟩⟩
      replace c12 := Bool.eq_false_iff.mpr c12
      subst c12
      have H1 : (codec_Decode.j2 kj8 a0 t202 x8_1 x9_1 x204000_1 x204001_1) = some (r1, r2) := by rw [if_neg (show ¬ (false = true) by decide)] at H; exact H
      clear H
      have H := H1
      clear H1
      have H' := Aside0.mk H
      clear H
      go_wp2
      go_meet
      case rel => exact ⟨_, (x9_1), (by first | rfl | (simp; done) | (simp [*]; done)), H', ⟨by have := HK1.out; have := HJ8.out; first | omega | exact Nat.le_refl _⟩, ⟨by (with_reducible repeat (first | apply Kd.R_alloc | apply Kd.R_drewN | apply Kd.R_drew)); exact ad.out⟩, ⟨by repeat (first | (with_reducible first | exact HI203.out | apply IsS83.alloc | apply IsS83.drewN | apply IsS83.drew | apply IsS83.set_0 | apply IsS83.set_1) | exact HI203.out)⟩, ⟨by repeat (first | (with_reducible first | exact HB.out | apply below_alloc | apply pw_below_drewN | apply below_drew1 | refine below_set ?_ (IsS83.ge HI203.out)) | exact HB.out)⟩⟩
     case rest =>
      clear HC11
      try clear c1
      try clear c2
      try clear p2
      try clear p3
      try clear c4
      try clear c10
      try clear ah
      try clear ar
      try clear c12
      try clear aj ak
      try clear al an
      try clear p2
      try clear p3
      obtain ⟨kq, x9_10, rfl, HA, au, ad, HI203, HB⟩ := hcut
      cases kq with
      | zero => exact absurd HA.out (by simp [codec_Decode.j2])
      | succ kj10 =>
       have H := HA.out
       clear HA
       simp only [codec_Decode.j2] at H
       have HC13 := Aside0.mk H
       clear H
       go_upto_region 9 with (fail)
       go_cut [33] (fun v33 wc => ∃ (kq : Nat) (x33_12 : Bool), v33 = .bool x33_12 ∧ Aside0 (codec_Decode.j3 kq a0 t202 x8_1 x9_10 x33_12 x204000_1 x204001_1 = some (r1, r2)) ∧ Aside0 (kq ≤ kj10) ∧ Aside0 (Kd.R k50 50 wc w.heap.size (fun _ => True) u8 x8_1) ∧ Aside0 (IsS83 w wc ae x204000_1 x204001_1) ∧ Aside0 (Below w.heap.size w wc))
       case first =>
        have H := HC13.out
        clear HC13
        by_cases c14 : x9_10 = t202; rotate_left
        ·rw [if_neg c14] at H
         have ao : (x9_10 == t202) = false := beq_eq_false_iff_ne.mpr c14
         have av : (x9_10 != t202) = true := bne_iff_ne.mpr c14
         (first | rw [ao] | (simp only [i64_w, i32_w]; rw [ao]) | skip)
         have H' := Aside0.mk H
         clear H
         go_wp2
         go_meet
         case rel => exact ⟨_, (false), (by first | rfl | (simp; done) | (simp [*]; done)), H', ⟨by have := HK1.out; have := HJ8.out; have := au.out; first | omega | exact Nat.le_refl _⟩, ⟨by (with_reducible repeat (first | apply Kd.R_alloc | apply Kd.R_drewN | apply Kd.R_drew)); exact ad.out⟩, ⟨by repeat (first | (with_reducible first | exact HI203.out | apply IsS83.alloc | apply IsS83.drewN | apply IsS83.drew | apply IsS83.set_0 | apply IsS83.set_1) | exact HI203.out)⟩, ⟨by repeat (first | (with_reducible first | exact HB.out | apply below_alloc | apply pw_below_drewN | apply below_drew1 | refine below_set ?_ (IsS83.ge HI203.out)) | exact HB.out)⟩⟩
        rw [if_pos c14] at H
        have ao : (x9_10 == t202) = true := beq_iff_eq.mpr c14
        have av : (x9_10 != t202) = false := bne_eq_false_iff_eq.mpr c14
        clear c14
        (first | rw [ao] | (simp only [i64_w, i32_w]; rw [ao]) | skip)
        have H' := Aside0.mk H
        clear H
        go_wp2
        go_meet
        case rel => exact ⟨_, (decide (t202 ≥ 0)), (by first | rfl | (simp; done) | (simp [*]; done)), H', ⟨by have := HK1.out; have := HJ8.out; have := au.out; first | omega | exact Nat.le_refl _⟩, ⟨by (with_reducible repeat (first | apply Kd.R_alloc | apply Kd.R_drewN | apply Kd.R_drew)); exact ad.out⟩, ⟨by repeat (first | (with_reducible first | exact HI203.out | apply IsS83.alloc | apply IsS83.drewN | apply IsS83.drew | apply IsS83.set_0 | apply IsS83.set_1) | exact HI203.out)⟩, ⟨by repeat (first | (with_reducible first | exact HB.out | apply below_alloc | apply pw_below_drewN | apply below_drew1 | refine below_set ?_ (IsS83.ge HI203.out)) | exact HB.out)⟩⟩
       case rest =>
        clear HC13
        try clear c1
        try clear c2
        try clear p2
        try clear p3
        try clear c4
        try clear c10
        try clear ah
        try clear ar
        try clear c12
        try clear c14
        try clear ao
        try clear av
        try clear aj ak
        try clear al an
        try clear p2
        try clear p3
        obtain ⟨kq, x33_12, rfl, HA, a7, ad, HI203, HB⟩ := hcut
        cases kq with
        | zero => exact absurd HA.out (by simp [codec_Decode.j3])
        | succ bf =>
         have H := HA.out
         clear HA
         simp only [codec_Decode.j3] at H
         have HC15 := Aside0.mk H
         clear H
         go_upto_if 33 with (fail)
         go_cut [9] (fun v9 wc => ∃ (kq : Nat) (x9_14 : Int), v9 = .int .i64 x9_14 ∧ Aside0 (codec_Decode.j4 kq a0 t202 x8_1 x9_14 x204000_1 x204001_1 = some (r1, r2)) ∧ Aside0 (kq ≤ bf) ∧ Aside0 (Kd.R k50 50 wc w.heap.size (fun _ => True) u8 x8_1) ∧ Aside0 (IsS83 w wc ae x204000_1 x204001_1) ∧ Aside0 (Below w.heap.size w wc))
         case first =>
          have H := HC15.out
          clear HC15
          by_cases c16 : x33_12 = true; rotate_left
          ·replace c16 := Bool.eq_false_iff.mpr c16
           subst c16
           have H1 : (codec_Decode.j4 bf a0 t202 x8_1 x9_10 x204000_1 x204001_1) = some (r1, r2) := by rw [if_neg (show ¬ (false = true) by decide)] at H; exact H
           clear H
           have H := H1
           clear H1
           have H' := Aside0.mk H
           clear H
           go_wp2
           go_meet
           case rel => exact ⟨_, (x9_10), (by first | rfl | (simp; done) | (simp [*]; done)), H', ⟨by have := HK1.out; have := HJ8.out; have := au.out; have := a7.out; first | omega | exact Nat.le_refl _⟩, ⟨by (with_reducible repeat (first | apply Kd.R_alloc | apply Kd.R_drewN | apply Kd.R_drew)); exact ad.out⟩, ⟨by repeat (first | (with_reducible first | exact HI203.out | apply IsS83.alloc | apply IsS83.drewN | apply IsS83.drew | apply IsS83.set_0 | apply IsS83.set_1) | exact HI203.out)⟩, ⟨by repeat (first | (with_reducible first | exact HB.out | apply below_alloc | apply pw_below_drewN | apply below_drew1 | refine below_set ?_ (IsS83.ge HI203.out)) | exact HB.out)⟩⟩
          subst c16
          have H1 : (if x204000_1.toList = ([] : List UInt8) then (some (x8_1, 0)) else (codec_Decode.j4 bf a0 t202 x8_1 (wrap64 (x9_10 + 1)) x204000_1 x204001_1)) = some (r1, r2) := by rw [if_pos rfl] at H; exact H
          clear H
          have H := H1
          clear H1
          by_cases c17 : x204000_1.toList = ([] : List UInt8); rotate_left
          ·rw [if_neg c17] at H
           have ap : (x204000_1.toList == ([] : List UInt8)) = false := beq_eq_false_iff_ne.mpr c17
           have a9 : (x204000_1.toList != ([] : List UInt8)) = true := bne_iff_ne.mpr c17
           (first | rw [ap] | (simp only [i64_w, i32_w]; rw [ap]) | skip)
           have H' := Aside0.mk H
           clear H
           obtain ⟨HGz19, hgz19⟩ := HI203.out
           have a2 := cellS83_0 HGz19
           have a3 := cellS83_1 HGz19
           have a4 := blk_frozen HGz19 0
           have a5 := blk_frozen HGz19 1
           clear HGz19 hgz19
           go_wp2
           go_meet
           case rel => exact ⟨_, (wrap64 (x9_10 + 1)), (by first | rfl | (simp; done) | (simp [*]; done)), H', ⟨by have := HK1.out; have := HJ8.out; have := au.out; have := a7.out; first | omega | exact Nat.le_refl _⟩, ⟨by (with_reducible repeat (first | apply Kd.R_alloc | apply Kd.R_drewN | apply Kd.R_drew)); exact ad.out⟩, ⟨by repeat (first | (with_reducible first | exact HI203.out | apply IsS83.alloc | apply IsS83.drewN | apply IsS83.drew | apply IsS83.set_0 | apply IsS83.set_1) | exact HI203.out)⟩, ⟨by repeat (first | (with_reducible first | exact HB.out | apply below_alloc | apply pw_below_drewN | apply below_drew1 | refine below_set ?_ (IsS83.ge HI203.out)) | exact HB.out)⟩⟩
          rw [if_pos c17] at H
          have ap : (x204000_1.toList == ([] : List UInt8)) = true := beq_iff_eq.mpr c17
          have a9 : (x204000_1.toList != ([] : List UInt8)) = false := bne_eq_false_iff_eq.mpr c17
          clear c17
          (first | rw [ap] | (simp only [i64_w, i32_w]; rw [ap]) | skip)
          simp only [Option.some.injEq, Prod.mk.injEq] at H
          obtain ⟨rfl, rfl⟩ := H
          obtain ⟨HGz18, hgz18⟩ := HI203.out
          have aw := cellS83_0 HGz18
          have ax := cellS83_1 HGz18
          have ay := blk_frozen HGz18 0
          have az := blk_frozen HGz18 1
          clear HGz18 hgz18
          go_wp2
          (try simp only [Exit.jump])
          go_ret2
          exact ⟨_, er, by (with_reducible repeat (first | apply Kd.R_alloc | apply Kd.R_drewN | apply Kd.R_drew)); exact ad.out, by repeat (first | (with_reducible first | exact HB.out | apply below_alloc | apply pw_below_drewN | apply below_drew1 | refine below_set ?_ (IsS83.ge HI203.out)) | exact HB.out)⟩
         case rest =>
          clear HC15
          try clear c1
          try clear c2
          try clear p2
          try clear p3
          try clear c4
          try clear p6
          try clear c10
          try clear ah
          try clear ar
          try clear c12
          try clear c14
          try clear ao
          try clear av
          try clear c16
          try clear c17
          try clear ap
          try clear a9
          try clear aw ax a2 a3 aj ak
          try clear ay az a4 a5 al an
          try clear p2
          try clear p3
          obtain ⟨kq, x9_14, rfl, HA, bb, ad, HI203, HB⟩ := hcut
          cases kq with
          | zero => exact absurd HA.out (by simp [codec_Decode.j4])
          | succ a8 =>
           have H := HA.out
           clear HA
           simp only [codec_Decode.j4] at H
           by_cases c20 : x9_14 < (a0.size : Int); rotate_left
           ·rw [if_neg c20] at H
            have bc : decide (x9_14 < (a0.size : Int)) = false := decide_eq_false c20
            clear c20
            by_cases c54 : x204000_1.toList = ([] : List UInt8); rotate_left
            ·rw [if_neg c54] at H
             have c54b0 : (x204000_1.toList == ([] : List UInt8)) = false := beq_eq_false_iff_ne.mpr c54
             have c54b1 : (x204000_1.toList != ([] : List UInt8)) = true := bne_iff_ne.mpr c54
             simp only [Option.some.injEq, Prod.mk.injEq] at H
             obtain ⟨rfl, rfl⟩ := H
             obtain ⟨HGz56, hgz56⟩ := HI203.out
             have hcz56_0 := cellS83_0 HGz56
             have hcz56_1 := cellS83_1 HGz56
             have hfz56_0 := blk_frozen HGz56 0
             have hfz56_1 := blk_frozen HGz56 1
             clear HGz56 hgz56
             go_wp2
             (try simp only [Exit.jump])
             go_ret2
             exact ⟨_, er, by first | exact Kd.R_nil _ _ _ _ _ | exact Kd.N_nil _ _ _ _ _ | exact Kd.V_nil _ _ _ _ _ | exact Kd.Q_nil _ _ _ _ _ | exact Kd.S_nil _ _ _ _ _, by repeat (first | (with_reducible first | exact HB.out | apply below_alloc | apply pw_below_drewN | apply below_drew1 | refine below_set ?_ (IsS83.ge HI203.out)) | exact HB.out)⟩
            rw [if_pos c54] at H
            have c54b0 : (x204000_1.toList == ([] : List UInt8)) = true := beq_iff_eq.mpr c54
            have c54b1 : (x204000_1.toList != ([] : List UInt8)) = false := bne_eq_false_iff_eq.mpr c54
            clear c54
            simp only [Option.some.injEq, Prod.mk.injEq] at H
            obtain ⟨rfl, rfl⟩ := H
            obtain ⟨HGz55, hgz55⟩ := HI203.out
            have hcz55_0 := cellS83_0 HGz55
            have hcz55_1 := cellS83_1 HGz55
            have hfz55_0 := blk_frozen HGz55 0
            have hfz55_1 := blk_frozen HGz55 1
            clear HGz55 hgz55
            go_wp2
            (try simp only [Exit.jump])
            go_ret2
            exact ⟨_, er, by (with_reducible repeat (first | apply Kd.R_alloc | apply Kd.R_drewN | apply Kd.R_drew)); exact ad.out, by repeat (first | (with_reducible first | exact HB.out | apply below_alloc | apply pw_below_drewN | apply below_drew1 | refine below_set ?_ (IsS83.ge HI203.out)) | exact HB.out)⟩
           rw [if_pos c20] at H
           have bc : decide (x9_14 < (a0.size : Int)) = true := decide_eq_true c20
           clear c20
           by_cases c21 : 0 ≤ x9_14; rotate_left
           ·rw [if_neg c21] at H
            exact absurd H (by simp)
           rw [if_pos c21] at H
           have c21b0 : decide (0 ≤ x9_14) = true := decide_eq_true c21
           clear c21
           replace H := Option.bind_eq_some_iff.mp H
           obtain ⟨t204, A230, H⟩ := H
           replace H : (if (x8_1.length : Int) = 1000 then (some (([] : List (S50)), 3)) else (if (wrap64 (1 + t204)) = 4 then ((codec_reader_text.f x204000_1 x204001_1).bind fun bt206 => (codec_Decode.j5 a8 a0 t202 x8_1 x9_14 bt206.2.1 bt206.2.2 (wrap64 (1 + t204)) 0 bt206.1)) else (if 0 ≤ (wrap64 (1 + t204)) then (if (wrap64 (1 + t204)) < 5 then ((codec_reader_number.f x204000_1 x204001_1 (rd sizTabI (wrap64 (1 + t204)))).bind fun bt210 => (codec_Decode.j5 a8 a0 t202 x8_1 x9_14 bt210.2.1 bt210.2.2 (wrap64 (1 + t204)) bt210.1 (⟨#[]⟩ : ByteArray))) else (none)) else (none)))) = some (r1, r2) := H
           have A23 := Aside0.mk A230
           clear A230
           by_cases c24 : (x8_1.length : Int) = 1000
           ·rw [if_pos c24] at H
            have bd : ((x8_1.length : Int) == 1000) = true := beq_iff_eq.mpr c24
            have be : ((x8_1.length : Int) != 1000) = false := bne_eq_false_iff_eq.mpr c24
            clear c24
            simp only [Option.some.injEq, Prod.mk.injEq] at H
            obtain ⟨rfl, rfl⟩ := H
            have p22 : 0 ≤ (x9_14 : Int) := od
            have q22 : x9_14 < (a0.size : Int) := od
            have hx22 := bt_at a0 x9_14
            replace p22 := eq_true p22
            replace q22 := eq_true q22
            go_wp2_with (first | (go_at_call 38; (with_reducible refine (strings_IndexByte.calls (⟨#[98, 119, 108, 116]⟩ : ByteArray) (bt a0 x9_14) t204 _ A23.out).mono ?_); rintro e w' ⟨rfl, ⟨nd, rfl⟩⟩; (try first | exact ⟨rfl, _, World.drewN_drewN _ _ _⟩ | exact ⟨rfl, _, Eq.trans (World.drewN_drewN _ _ _) (congrArg (World.drewN _) (Nat.add_assoc _ _ _))⟩)) | ((with_reducible refine gate_dst (N := 10) rfl ?_); refine box_event ?hg (N := 10) ?hd (cs := #[.int .i64 0, .int .u64 0, .string (⟨#[]⟩ : ByteArray)]) (t := 50) ?hr ?_; (case hd => rfl); (case hg => rfl); (case hr => first | (go_simp; done) | (go_simp; rfl)); intro aa hg w25 hbox hb; have n0_ := Aside0.mk (Kd.R_below (Kd.R_elderB (by (with_reducible repeat (first | apply Kd.R_alloc | apply Kd.R_drewN | apply Kd.R_drew)); exact ad.out) aa (Nat.le_of_eq hg.symm)) hb); have n1_ := Aside0.mk (IsS83.below (by repeat (first | (with_reducible first | exact HI203.out | apply IsS83.alloc | apply IsS83.drewN | apply IsS83.drew | apply IsS83.set_0 | apply IsS83.set_1) | exact HI203.out)) hb); have n2_ := Aside0.mk (below_step (by repeat (first | (with_reducible first | exact HB.out | apply below_alloc | apply pw_below_drewN | apply below_drew1 | refine below_set ?_ (IsS83.ge HI203.out)) | exact HB.out)) hb); have n3_ := Aside0.mk (hbox); have n4_ := Aside0.mk ((by rw [hg]; exact (below_size (by repeat (first | (with_reducible first | exact HB.out | apply below_alloc | apply pw_below_drewN | apply below_drew1 | refine below_set ?_ (IsS83.ge HI203.out)) | exact HB.out))) : w.heap.size ≤ aa)); have n5_ := Aside0.mk ((by rw [hg]; exact (below_size (by repeat (first | (with_reducible first | exact HB.out | apply below_alloc | apply pw_below_drewN | apply below_drew1 | refine below_set ?_ (IsS83.ge HI203.out)) | exact HB.out))) : w.heap.size ≤ aa)); have n6_ := Aside0.mk ((by rw [hg]; exact Nat.ne_of_lt (IsS83.lt (show IsS83 w _ ae x204000_1 x204001_1 from by repeat (first | (with_reducible first | exact HI203.out | apply IsS83.alloc | apply IsS83.drewN | apply IsS83.drew | apply IsS83.set_0 | apply IsS83.set_1) | exact HI203.out))) : ae ≠ aa)); have n7_ := Aside0.mk ((by rw [hg]; exact Nat.ne_of_gt (IsS83.lt (show IsS83 w _ ae x204000_1 x204001_1 from by repeat (first | (with_reducible first | exact HI203.out | apply IsS83.alloc | apply IsS83.drewN | apply IsS83.drew | apply IsS83.set_0 | apply IsS83.set_1) | exact HI203.out))) : aa ≠ ae)); clear ad; clear HI203; clear HB; have ad := n0_; have HI203 := n1_; have HB := n2_; have af := n3_; have a6 := n4_; have ai := n5_; have ab := n6_; have ag := n7_; clear n0_ n1_ n2_ n3_ n4_ n5_ n6_ n7_; clear hb hbox hg; have hnb26 := ag.out; have hnc26 := ab.out; obtain ⟨hcz27_0, hcz27_1, hcz27_2, hfz27_0, hfz27_1, hfz27_2⟩ := bx3 af.out; obtain ⟨Ao28, co28, eo28⟩ := Kd.R_slice ad.out; subst eo28))
            (try simp only [Exit.jump])
            go_ret2
            exact ⟨_, er, by first | exact Kd.R_nil _ _ _ _ _ | exact Kd.N_nil _ _ _ _ _ | exact Kd.V_nil _ _ _ _ _ | exact Kd.Q_nil _ _ _ _ _ | exact Kd.S_nil _ _ _ _ _, by repeat (first | (with_reducible first | exact HB.out | apply below_alloc | apply pw_below_drewN | apply below_drew1 | refine below_set ?_ (IsS83.ge HI203.out) | refine below_set ?_ ai.out) | exact HB.out)⟩
           rw [if_neg c24] at H
           have bd : ((x8_1.length : Int) == 1000) = false := beq_eq_false_iff_ne.mpr c24
           have be : ((x8_1.length : Int) != 1000) = true := bne_iff_ne.mpr c24
           have HC29 := Aside0.mk H
           clear H
           have p22 : 0 ≤ (x9_14 : Int) := od
           have q22 : x9_14 < (a0.size : Int) := od
           have hx22 := bt_at a0 x9_14
           replace p22 := eq_true p22
           replace q22 := eq_true q22
           go_upto_if 55 with (first | (go_at_call 38; (with_reducible refine (strings_IndexByte.calls (⟨#[98, 119, 108, 116]⟩ : ByteArray) (bt a0 x9_14) t204 _ A23.out).mono ?_); rintro e w' ⟨rfl, ⟨nd, rfl⟩⟩; (try first | exact ⟨rfl, _, World.drewN_drewN _ _ _⟩ | exact ⟨rfl, _, Eq.trans (World.drewN_drewN _ _ _) (congrArg (World.drewN _) (Nat.add_assoc _ _ _))⟩)) | ((with_reducible refine gate_dst (N := 10) rfl ?_); refine box_event ?hg (N := 10) ?hd (cs := #[.int .i64 0, .int .u64 0, .string (⟨#[]⟩ : ByteArray)]) (t := 50) ?hr ?_; (case hd => rfl); (case hg => rfl); (case hr => first | (go_simp; done) | (go_simp; rfl)); intro aa hg w30 hbox hb; have n0_ := Aside0.mk (Kd.R_below (Kd.R_elderB (by (with_reducible repeat (first | apply Kd.R_alloc | apply Kd.R_drewN | apply Kd.R_drew)); exact ad.out) aa (Nat.le_of_eq hg.symm)) hb); have n1_ := Aside0.mk (IsS83.below (by repeat (first | (with_reducible first | exact HI203.out | apply IsS83.alloc | apply IsS83.drewN | apply IsS83.drew | apply IsS83.set_0 | apply IsS83.set_1) | exact HI203.out)) hb); have n2_ := Aside0.mk (below_step (by repeat (first | (with_reducible first | exact HB.out | apply below_alloc | apply pw_below_drewN | apply below_drew1 | refine below_set ?_ (IsS83.ge HI203.out)) | exact HB.out)) hb); have n3_ := Aside0.mk (hbox); have n4_ := Aside0.mk ((by rw [hg]; exact (below_size (by repeat (first | (with_reducible first | exact HB.out | apply below_alloc | apply pw_below_drewN | apply below_drew1 | refine below_set ?_ (IsS83.ge HI203.out)) | exact HB.out))) : w.heap.size ≤ aa)); have n5_ := Aside0.mk ((by rw [hg]; exact (below_size (by repeat (first | (with_reducible first | exact HB.out | apply below_alloc | apply pw_below_drewN | apply below_drew1 | refine below_set ?_ (IsS83.ge HI203.out)) | exact HB.out))) : w.heap.size ≤ aa)); have n6_ := Aside0.mk ((by rw [hg]; exact Nat.ne_of_lt (IsS83.lt (show IsS83 w _ ae x204000_1 x204001_1 from by repeat (first | (with_reducible first | exact HI203.out | apply IsS83.alloc | apply IsS83.drewN | apply IsS83.drew | apply IsS83.set_0 | apply IsS83.set_1) | exact HI203.out))) : ae ≠ aa)); have n7_ := Aside0.mk ((by rw [hg]; exact Nat.ne_of_gt (IsS83.lt (show IsS83 w _ ae x204000_1 x204001_1 from by repeat (first | (with_reducible first | exact HI203.out | apply IsS83.alloc | apply IsS83.drewN | apply IsS83.drew | apply IsS83.set_0 | apply IsS83.set_1) | exact HI203.out))) : aa ≠ ae)); clear ad; clear HI203; clear HB; have ad := n0_; have HI203 := n1_; have HB := n2_; have af := n3_; have a6 := n4_; have ai := n5_; have ab := n6_; have ag := n7_; clear n0_ n1_ n2_ n3_ n4_ n5_ n6_ n7_; clear hb hbox hg; have hnb31 := ag.out; have hnc31 := ab.out; obtain ⟨hcz32_0, hcz32_1, hcz32_2, hfz32_0, hfz32_1, hfz32_2⟩ := bx3 af.out; obtain ⟨bg, bh, eo33⟩ := Kd.R_slice ad.out; subst eo33))
           (try simp only [Act.put, sl1, sl2, sl3])
           go_cut [] (fun wc => ∃ (kq : Nat) (x204000_28 : ByteArray) (x204001_28 : Int) (x206001_28 : Int) (x206002_28 : ByteArray), Aside0 (codec_Decode.j5 kq a0 t202 x8_1 x9_14 x204000_28 x204001_28 (wrap64 (1 + t204)) x206001_28 x206002_28 = some (r1, r2)) ∧ Aside0 (kq ≤ a8) ∧ Aside0 (Kd.R k50 50 wc w.heap.size (fun k_ => k_ ≠ aa) (.slice bg x8_1.length bh) x8_1) ∧ Aside0 (wc.heap[aa]? = some (.cells #[.int .i64 (wrap64 (1 + t204)), .int .u64 x206001_28, .string x206002_28] 50 (0, 0))) ∧ Aside0 (IsS83 w wc ae x204000_28 x204001_28) ∧ Aside0 (Below w.heap.size w wc))
           case first =>
            have H := HC29.out
            clear HC29
            by_cases c34 : (wrap64 (1 + t204)) = 4
            ·rw [if_pos c34] at H
             have aq : ((wrap64 (1 + t204)) == 4) = true := beq_iff_eq.mpr c34
             have ba : ((wrap64 (1 + t204)) != 4) = false := bne_eq_false_iff_eq.mpr c34
             clear c34
             (first | rw [aq] | (simp only [i64_w, i32_w]; rw [aq]) | skip)
             replace H := Option.bind_eq_some_iff.mp H
             obtain ⟨⟨t206, t207, t208⟩, A350, H⟩ := H
             replace H : (codec_Decode.j5 a8 a0 t202 x8_1 x9_14 t207 t208 (wrap64 (1 + t204)) 0 t206) = some (r1, r2) := H
             have A35 := Aside0.mk A350
             clear A350
             have H' := Aside0.mk H
             clear H
             go_wp2_with (first | (go_at_call 39; (with_reducible refine (codec_reader_text.calls ae x204000_1 x204001_1 t206 t207 t208 w _ ?side1 ?side2 A35.out).mono ?_); (case side1 => repeat (first | (with_reducible first | exact HI203.out | apply IsS83.alloc | apply IsS83.drewN | apply IsS83.drew | apply IsS83.set_0 | apply IsS83.set_1 | refine IsS83.far ?_ ab.out _) | exact HI203.out)); (case side2 => repeat (first | (with_reducible first | exact HB.out | apply below_alloc | apply pw_below_drewN | apply below_drew1 | refine below_set ?_ (IsS83.ge HI203.out) | refine below_set ?_ ai.out) | exact HB.out)); rintro e w36 ⟨rfl, hi, hb, hk⟩; have n0_ := Aside0.mk (Kd.R_mono (Kd.R_keep (IsS83.apart (show IsS83 w _ ae x204000_1 x204001_1 from by repeat (first | (with_reducible first | exact HI203.out | apply IsS83.alloc | apply IsS83.drewN | apply IsS83.drew | apply IsS83.set_0 | apply IsS83.set_1 | refine IsS83.far ?_ ab.out _) | exact HI203.out)) (by (with_reducible repeat (first | apply Kd.R_alloc | apply Kd.R_drewN | apply Kd.R_drew)); exact (Kd.R_mono (Kd.R_far (p := ⟨aa, 2, none⟩) (Kd.R_far (p := ⟨aa, 1, none⟩) (Kd.R_far (p := ⟨aa, 0, none⟩) (Kd.R_mono ad.out (fun k_ hk => (⟨hk, hk.2⟩ : _ ∧ k_ ≠ aa))) (fun _ hk => hk.2) (.int .i64 (wrap64 (1 + t204)))) (fun _ hk => hk.2) (.int .u64 0)) (fun _ hk => hk.2) (.string (⟨#[]⟩ : ByteArray))) (fun _ h_ => h_.1))) (by decide)) hk (fun _ h => h.2)) (fun _ h => h.1)); have n1_ := Aside0.mk (KeepBut.blk hk (g' := aa) (o := .cells #[.int .i64 (wrap64 (1 + t204)), .int .u64 0, .string (⟨#[]⟩ : ByteArray)] 50 (0, 0)) (by (with_reducible repeat (first | refine blk_drewN ?_ _ | refine blk_drew ?_ | refine blk_alloc ?_ _)); refine blk_put (cs := #[.int .i64 (wrap64 (1 + t204)), .int .u64 0, .string (⟨#[]⟩ : ByteArray)]) ?_ 2 _ rfl; (with_reducible repeat (first | refine blk_drewN ?_ _ | refine blk_drew ?_ | refine blk_alloc ?_ _)); refine blk_put (cs := #[.int .i64 (wrap64 (1 + t204)), .int .u64 0, .string (⟨#[]⟩ : ByteArray)]) ?_ 1 _ rfl; (with_reducible repeat (first | refine blk_drewN ?_ _ | refine blk_drew ?_ | refine blk_alloc ?_ _)); refine blk_put (cs := #[.int .i64 0, .int .u64 0, .string (⟨#[]⟩ : ByteArray)]) ?_ 0 _ rfl; (with_reducible repeat (first | refine blk_drewN ?_ _ | refine blk_drew ?_ | refine blk_alloc ?_ _)); exact af.out) ag.out (by simp)); have n2_ := Aside0.mk (hb); have n3_ := Aside0.mk (hi); clear ad; clear af; clear HB; clear HI203; have ad := n0_; have af := n1_; have HB := n2_; have HI203 := n3_; clear n0_ n1_ n2_ n3_; (try clear hb); (try clear hb2); (try clear hk); (try clear hi); have hnb37 := ag.out; have hnc37 := ab.out; obtain ⟨hcz38_0, hcz38_1, hcz38_2, hfz38_0, hfz38_1, hfz38_2⟩ := bx3 af.out))
             go_meet
             case rel => exact ⟨_, (t207), (t208), (0), (t206), H', ⟨by have := HK1.out; have := HJ8.out; have := au.out; have := a7.out; have := bb.out; first | omega | exact Nat.le_refl _⟩, ⟨by (with_reducible repeat (first | apply Kd.R_alloc | apply Kd.R_drewN | apply Kd.R_drew)); exact Kd.R_mono (Kd.R_far (p := ⟨aa, 2, none⟩) (Kd.R_mono ad.out (fun k_ hk => (⟨hk, hk.2⟩ : _ ∧ k_ ≠ aa))) (fun _ hk => hk.2) (.string t206)) (fun _ hk => hk.1.2)⟩, ⟨by (with_reducible repeat (first | refine blk_drewN ?_ _ | refine blk_drew ?_ | refine blk_alloc ?_ _)); refine blk_put (cs := #[.int .i64 (wrap64 (1 + t204)), .int .u64 0, .string (⟨#[]⟩ : ByteArray)]) ?_ 2 _ rfl; (with_reducible repeat (first | refine blk_drewN ?_ _ | refine blk_drew ?_ | refine blk_alloc ?_ _)); exact af.out⟩, ⟨by repeat (first | (with_reducible first | exact HI203.out | apply IsS83.alloc | apply IsS83.drewN | apply IsS83.drew | apply IsS83.set_0 | apply IsS83.set_1 | refine IsS83.far ?_ ab.out _) | exact HI203.out)⟩, ⟨by repeat (first | (with_reducible first | exact HB.out | apply below_alloc | apply pw_below_drewN | apply below_drew1 | refine below_set ?_ (IsS83.ge HI203.out) | refine below_set ?_ ai.out) | exact HB.out)⟩⟩
            rw [if_neg c34] at H
            have aq : ((wrap64 (1 + t204)) == 4) = false := beq_eq_false_iff_ne.mpr c34
            have ba : ((wrap64 (1 + t204)) != 4) = true := bne_iff_ne.mpr c34
            (first | rw [aq] | (simp only [i64_w, i32_w]; rw [aq]) | skip)
            obtain ⟨ji39, hji39⟩ : ∃ j_ : Int, (wrap64 (1 + t204)) = j_ := ⟨_, rfl⟩
            replace H : (if 0 ≤ (ji39) then (if (ji39) < 5 then ((codec_reader_number.f x204000_1 x204001_1 (rd sizTabI (ji39))).bind fun bt210 => (codec_Decode.j5 a8 a0 t202 x8_1 x9_14 bt210.2.1 bt210.2.2 ji39 bt210.1 (⟨#[]⟩ : ByteArray))) else (none)) else (none)) = some (r1, r2) := by first | (rw [hji39] at H; exact H) | (simp only [hji39] at H ⊢; exact H)
            (try rw [hji39] at aq)
            (try rw [hji39] at ba)
            have hji39w : (IntKind.i64.wrap (1 + t204)) = ji39 := (i64_w _).trans hji39
            by_cases c40 : 0 ≤ (ji39); rotate_left
            ·rw [if_neg c40] at H
             exact absurd H (by simp)
            rw [if_pos c40] at H
            have c40b0 : decide (0 ≤ (ji39)) = true := decide_eq_true c40
            clear c40
            by_cases c41 : (ji39) < 5; rotate_left
            ·rw [if_neg c41] at H
             exact absurd H (by simp)
            rw [if_pos c41] at H
            have c41b0 : decide ((ji39) < 5) = true := decide_eq_true c41
            clear c41
            replace H := Option.bind_eq_some_iff.mp H
            obtain ⟨⟨t210, t211, t212⟩, A420, H⟩ := H
            replace H : (codec_Decode.j5 a8 a0 t202 x8_1 x9_14 t211 t212 ji39 t210 (⟨#[]⟩ : ByteArray)) = some (r1, r2) := H
            have A42 := Aside0.mk A420
            clear A420
            have H' := Aside0.mk H
            clear H
            have hnb43 := ag.out
            have hnc43 := ab.out
            obtain ⟨hcz44_0, hcz44_1, hcz44_2, hfz44_0, hfz44_1, hfz44_2⟩ := bx3 af.out
            have p209 : 0 ≤ ((ji39) : Int) := od
            have q209 : (ji39) < (sizTabI.length : Int) := od
            have ql209 : (((ji39) : Int) < (5 : Int)) = True := eq_true (od)
            obtain ⟨ad209, e209, ac⟩ := Kd.at_int HRGsiz.out (ji39) p209 q209
            obtain rfl : (⟨0, 0, none⟩ : Addr) = ad209 := (by injection e209)
            (first | simp only [add_plain] at ac | simp only [add_at] at ac | simp only [Addr.add, Nat.zero_add] at ac | skip)
            have hn209_0 : (⟨0, 0, none⟩ : Addr).block ≠ aa := Nat.ne_of_lt (Nat.lt_of_lt_of_le (by have := World.block_lt_of_cell? _ _ ac; first | rwa [add_block] at this | exact this) a6.out)
            have hn209_1 : (⟨0, 0, none⟩ : Addr).block ≠ aa := Nat.ne_of_lt (Nat.lt_of_lt_of_le (by have := World.block_lt_of_cell? _ _ ac; first | rwa [add_block] at this | exact this) a6.out)
            have hn209_2 : (⟨0, 0, none⟩ : Addr).block ≠ aa := Nat.ne_of_lt (Nat.lt_of_lt_of_le (by have := World.block_lt_of_cell? _ _ ac; first | rwa [add_block] at this | exact this) a6.out)
            replace ac := (HB.out.cell (World.block_lt_of_cell? w _ ac)).trans ac
            replace ac := (cell_far (p := ⟨aa, 0, none⟩) (by first | (rw [add_block]; exact hn209_0) | (show (Addr.add _ _).block ≠ _; rw [add_block]; exact hn209_0) | exact hn209_0) (.int .i64 (ji39))).trans ac
            replace ac := (cell_far (p := ⟨aa, 1, none⟩) (by first | (rw [add_block]; exact hn209_1) | (show (Addr.add _ _).block ≠ _; rw [add_block]; exact hn209_1) | exact hn209_1) (.int .u64 0)).trans ac
            replace ac := (cell_far (p := ⟨aa, 2, none⟩) (by first | (rw [add_block]; exact hn209_2) | (show (Addr.add _ _).block ≠ _; rw [add_block]; exact hn209_2) | exact hn209_2) (.string (⟨#[]⟩ : ByteArray))).trans ac
            (try have hy209_0 := fun (n_ : Nat) => (show (((((w30.drewN n_).setCell ⟨aa, 0, none⟩ (.int .i64 (ji39))).setCell ⟨aa, 1, none⟩ (.int .u64 0)).setCell ⟨aa, 2, none⟩ (.string (⟨#[]⟩ : ByteArray)))).cell? _ = some _ from ac))
            clear hn209_0
            clear hn209_1
            clear hn209_2
            replace p209 := eq_true p209
            replace q209 := eq_true q209
            go_wp2_with (first | (go_at_call 40; (with_reducible refine (codec_reader_number.calls ae x204000_1 x204001_1 (rd sizTabI (ji39)) t210 t211 t212 w _ ?side1 ?side2 A42.out).mono ?_); (case side1 => repeat (first | (with_reducible first | exact HI203.out | apply IsS83.alloc | apply IsS83.drewN | apply IsS83.drew | apply IsS83.set_0 | apply IsS83.set_1 | refine IsS83.far ?_ ab.out _) | exact HI203.out)); (case side2 => repeat (first | (with_reducible first | exact HB.out | apply below_alloc | apply pw_below_drewN | apply below_drew1 | refine below_set ?_ (IsS83.ge HI203.out) | refine below_set ?_ ai.out) | exact HB.out)); rintro e w45 ⟨rfl, hi, hb, hk⟩; have n0_ := Aside0.mk (Kd.R_mono (Kd.R_keep (IsS83.apart (show IsS83 w _ ae x204000_1 x204001_1 from by repeat (first | (with_reducible first | exact HI203.out | apply IsS83.alloc | apply IsS83.drewN | apply IsS83.drew | apply IsS83.set_0 | apply IsS83.set_1 | refine IsS83.far ?_ ab.out _) | exact HI203.out)) (by (with_reducible repeat (first | apply Kd.R_alloc | apply Kd.R_drewN | apply Kd.R_drew)); exact (Kd.R_mono (Kd.R_far (p := ⟨aa, 2, none⟩) (Kd.R_far (p := ⟨aa, 1, none⟩) (Kd.R_far (p := ⟨aa, 0, none⟩) (Kd.R_mono ad.out (fun k_ hk => (⟨hk, hk.2⟩ : _ ∧ k_ ≠ aa))) (fun _ hk => hk.2) (.int .i64 (ji39))) (fun _ hk => hk.2) (.int .u64 0)) (fun _ hk => hk.2) (.string (⟨#[]⟩ : ByteArray))) (fun _ h_ => h_.1))) (by decide)) hk (fun _ h => h.2)) (fun _ h => h.1)); have n1_ := Aside0.mk (KeepBut.blk hk (g' := aa) (o := .cells #[.int .i64 ji39, .int .u64 0, .string (⟨#[]⟩ : ByteArray)] 50 (0, 0)) (by (with_reducible repeat (first | refine blk_drewN ?_ _ | refine blk_drew ?_ | refine blk_alloc ?_ _)); refine blk_put (cs := #[.int .i64 (ji39), .int .u64 0, .string (⟨#[]⟩ : ByteArray)]) ?_ 2 _ rfl; (with_reducible repeat (first | refine blk_drewN ?_ _ | refine blk_drew ?_ | refine blk_alloc ?_ _)); refine blk_put (cs := #[.int .i64 (ji39), .int .u64 0, .string (⟨#[]⟩ : ByteArray)]) ?_ 1 _ rfl; (with_reducible repeat (first | refine blk_drewN ?_ _ | refine blk_drew ?_ | refine blk_alloc ?_ _)); refine blk_put (cs := #[.int .i64 0, .int .u64 0, .string (⟨#[]⟩ : ByteArray)]) ?_ 0 _ rfl; (with_reducible repeat (first | refine blk_drewN ?_ _ | refine blk_drew ?_ | refine blk_alloc ?_ _)); exact af.out) ag.out (by simp)); have n2_ := Aside0.mk (hb); have n3_ := Aside0.mk (hi); clear ad; clear af; clear HB; clear HI203; have ad := n0_; have af := n1_; have HB := n2_; have HI203 := n3_; clear n0_ n1_ n2_ n3_; (try clear hb); (try clear hb2); (try clear hk); (try clear hi); obtain ⟨hcz46_0, hcz46_1, hcz46_2, hfz46_0, hfz46_1, hfz46_2⟩ := bx3 af.out))
            go_meet
            case rel => (try rw [hji39]); exact ⟨_, (t211), (t212), (t210), ((⟨#[]⟩ : ByteArray)), H', ⟨by have := HK1.out; have := HJ8.out; have := au.out; have := a7.out; have := bb.out; first | omega | exact Nat.le_refl _⟩, ⟨by (with_reducible repeat (first | apply Kd.R_alloc | apply Kd.R_drewN | apply Kd.R_drew)); exact Kd.R_mono (Kd.R_far (p := ⟨aa, 1, none⟩) (Kd.R_mono ad.out (fun k_ hk => (⟨hk, hk.2⟩ : _ ∧ k_ ≠ aa))) (fun _ hk => hk.2) (.int .u64 t210)) (fun _ hk => hk.1.2)⟩, ⟨by (with_reducible repeat (first | refine blk_drewN ?_ _ | refine blk_drew ?_ | refine blk_alloc ?_ _)); refine blk_put (cs := #[.int .i64 ji39, .int .u64 0, .string (⟨#[]⟩ : ByteArray)]) ?_ 1 _ rfl; (with_reducible repeat (first | refine blk_drewN ?_ _ | refine blk_drew ?_ | refine blk_alloc ?_ _)); exact af.out⟩, ⟨by repeat (first | (with_reducible first | exact HI203.out | apply IsS83.alloc | apply IsS83.drewN | apply IsS83.drew | apply IsS83.set_0 | apply IsS83.set_1 | refine IsS83.far ?_ ab.out _) | exact HI203.out)⟩, ⟨by repeat (first | (with_reducible first | exact HB.out | apply below_alloc | apply pw_below_drewN | apply below_drew1 | refine below_set ?_ (IsS83.ge HI203.out) | refine below_set ?_ ai.out) | exact HB.out)⟩⟩
           case rest =>
            clear HC29
            try clear c1
            try clear c2
            try clear p2
            try clear q2
            try clear hx2
            try clear c3
            try clear p3
            try clear c4
            try clear p6
            try clear c10
            try clear ah
            try clear ar
            try clear c12
            try clear c14
            try clear ao
            try clear av
            try clear c16
            try clear c17
            try clear ap
            try clear a9
            try clear c20
            try clear bc
            try clear p20
            try clear q20
            try clear hx20
            try clear c21
            try clear c21b0
            try clear c22
            try clear p22
            try clear q22
            try clear hx22
            try clear c24
            try clear bd
            try clear be
            try clear c26
            try clear c31
            try clear c34
            try clear aq
            try clear ba
            try clear c37
            try clear c40
            try clear c40b0
            try clear c41
            try clear c41b0
            try clear c43
            try clear aw ax a2 a3 hcz27_0 hcz27_1 hcz27_2 hcz32_0 hcz32_1 hcz32_2 hcz38_0 hcz38_1 hcz38_2 hcz44_0 hcz44_1 hcz44_2 hcz46_0 hcz46_1 hcz46_2 aj ak
            try clear ay az a4 a5 hfz27_0 hfz27_1 hfz27_2 hfz32_0 hfz32_1 hfz32_2 hfz38_0 hfz38_1 hfz38_2 hfz44_0 hfz44_1 hfz44_2 hfz46_0 hfz46_1 hfz46_2 al an
            try clear ac
            try clear p2
            try clear p209
            try clear p22
            try clear p3
            try clear p6
            try clear q209
            try clear q22
            obtain ⟨kq, x204000_28, x204001_28, x206001_28, x206002_28, HA, bi, ad, af, HI203, HB⟩ := hcut
            cases kq with
            | zero => exact absurd HA.out (by simp [codec_Decode.j5])
            | succ bj =>
             have H := HA.out
             clear HA
             simp only [codec_Decode.j5] at H
             by_cases c47 : x204001_28 = 0; rotate_left
             ·rw [if_neg c47] at H
              have c47b0 : (x204001_28 == 0) = false := beq_eq_false_iff_ne.mpr c47
              have c47b1 : (x204001_28 != 0) = true := bne_iff_ne.mpr c47
              simp only [Option.some.injEq, Prod.mk.injEq] at H
              obtain ⟨rfl, rfl⟩ := H
              obtain ⟨HGz53, hgz53⟩ := HI203.out
              have hcz53_0 := cellS83_0 HGz53
              have hcz53_1 := cellS83_1 HGz53
              have hfz53_0 := blk_frozen HGz53 0
              have hfz53_1 := blk_frozen HGz53 1
              clear HGz53 hgz53
              go_wp2
              repeat (go_quiet (fail); try go_wp2)
              (try simp only [Exit.jump])
              go_ret2
              exact ⟨_, er, by first | exact Kd.R_nil _ _ _ _ _ | exact Kd.N_nil _ _ _ _ _ | exact Kd.V_nil _ _ _ _ _ | exact Kd.Q_nil _ _ _ _ _ | exact Kd.S_nil _ _ _ _ _, by repeat (first | (with_reducible first | exact HB.out | apply below_alloc | apply pw_below_drewN | apply below_drew1 | refine below_set ?_ (IsS83.ge HI203.out) | refine below_set ?_ ai.out) | exact HB.out)⟩
             rw [if_pos c47] at H
             have c47b0 : (x204001_28 == 0) = true := beq_iff_eq.mpr c47
             have c47b1 : (x204001_28 != 0) = false := bne_eq_false_iff_eq.mpr c47
             clear c47
             by_cases c48 : x8_1.length < 4398046511104; rotate_left
             ·rw [if_neg c48] at H
              exact absurd H (by simp)
             rw [if_pos c48] at H
             have LMc48 := Aside0.mk c48
             clear c48
             obtain ⟨y213, hy213⟩ : ∃ y_ : List (S50), y_ = (x8_1 ++ [(⟨(wrap64 (1 + t204)), x206001_28, x206002_28⟩ : S50)]) := ⟨_, rfl⟩
             replace H : (codec_Decode.l0 bj a0 t202 y213 (wrap64 (x9_14 + 1)) x204000_28 x204001_28) = some (r1, r2) := by first | (rw [hy213]; with_reducible exact H) | (have H2_ := (Option.bind_some _ _).symm.trans H; rw [hy213]; with_reducible exact H2_) | (have H2_ := (Option.bind_some _ _).symm.trans H; with_reducible exact H2_) | with_reducible exact H | (rw [hy213]; exact H) | exact H
             have Ny213 := Aside0.mk hy213
             clear hy213
             have H' := Aside0.mk H
             clear H
             obtain ⟨HGz49, hgz49⟩ := HI203.out
             have hcz49_0 := cellS83_0 HGz49
             have hcz49_1 := cellS83_1 HGz49
             have hfz49_0 := blk_frozen HGz49 0
             have hfz49_1 := blk_frozen HGz49 1
             clear HGz49 hgz49
             have hnb50 := ag.out
             have hnc50 := ab.out
             obtain ⟨hcz51_0, hcz51_1, hcz51_2, hfz51_0, hfz51_1, hfz51_2⟩ := bx3 af.out
             go_wp2_with (first | ((with_reducible refine gate_builtin (b := .append) (xs := #[.tmp 69, .tmp 71]) rfl ?_); at_builtin; refine Kd.R_append k50 (w0 := w) w.heap.size rfl (.tmp 69) (.tmp 71) 46 50 (.agg #[(.int .i64 0), (.int .u64 0), (.string ⟨#[]⟩)]) 32 rfl Tryd.underlying46 info50 rfl (by decide) (by omega) (.slice bg x8_1.length bh) x8_1 (⟨(wrap64 (1 + t204)), x206001_28, x206002_28⟩ : S50) [.int .i64 (wrap64 (1 + t204)), .int .u64 x206001_28, .string x206002_28] (fun k_ => k_ ≠ aa) (fun _ => False) rfl rfl ?aP (fun _ hk => hk.elim) ?aF ?aO ?aB ?aS ?aL ?_; (case aP => exact k50_mkM _ _ _ (⟨(wrap64 (1 + t204)), x206001_28, x206002_28⟩ : S50)); (case aB => exact (by repeat (first | (with_reducible first | exact HB.out | apply below_alloc | apply pw_below_drewN | apply below_drew1 | refine below_set ?_ (IsS83.ge HI203.out) | refine below_set ?_ ai.out) | exact HB.out))); (case aF => exact (fun k_ hk => Kd.freshB (g := aa) (o := .cells #[.int .i64 (wrap64 (1 + t204)), .int .u64 x206001_28, .string x206002_28] 50 (0, 0)) (bk af.out) k_ hk)); (case aO => exact (by (with_reducible repeat (first | apply Kd.R_alloc | apply Kd.R_drewN | apply Kd.R_drew)); exact ad.out)); (case aS => exact (below_size (by repeat (first | (with_reducible first | exact HB.out | apply below_alloc | apply pw_below_drewN | apply below_drew1 | refine below_set ?_ (IsS83.ge HI203.out) | refine below_set ?_ ai.out) | exact HB.out)))); (case aL => have := LMc48.out; omega); intro v214 w52 ho hb hg hat; rw [← Ny213.out] at ho; have n0_ := Aside0.mk (blk_grown (g := aa) (o := .cells #[.int .i64 (wrap64 (1 + t204)), .int .u64 x206001_28, .string x206002_28] 50 (0, 0)) (bk af.out) hg (Kd.R_away ad.out (fun _ hk => hk))); have n1_ := Aside0.mk (IsS83.grown (by repeat (first | (with_reducible first | exact HI203.out | apply IsS83.alloc | apply IsS83.drewN | apply IsS83.drew | apply IsS83.set_0 | apply IsS83.set_1 | refine IsS83.far ?_ ab.out _) | exact HI203.out)) hg (IsS83.own_ne HI203.out ad.out (by decide))); have n2_ := Aside0.mk (hb); have n3_ := Aside0.mk (ho); clear af; clear HI203; clear HB; clear ad; have af := n0_; have HI203 := n1_; have HB := n2_; have HO215 := n3_; clear n0_ n1_ n2_ n3_; clear ho hb hg hat))
             go_step3
             refine ⟨rfl, ?_⟩
             try go_step
             go_roundg bj
             case measure => have := HK1.out; have := HJ8.out; have := au.out; have := a7.out; have := bb.out; have := bi.out; omega
             case rel => exact ⟨(y213), (wrap64 (x9_14 + 1)), (x204000_28), (x204001_28), (by first | rfl | (simp; done) | (simp [*]; done)), H', ⟨by have := HK1.out; have := HJ8.out; have := au.out; have := a7.out; have := bb.out; have := bi.out; omega⟩, ⟨by (with_reducible repeat (first | apply Kd.R_alloc | apply Kd.R_drewN | apply Kd.R_drew)); exact Kd.R_mono HO215.out (fun _ hk => trivial)⟩, ⟨by repeat (first | (with_reducible first | exact HI203.out | apply IsS83.alloc | apply IsS83.drewN | apply IsS83.drew | apply IsS83.set_0 | apply IsS83.set_1 | refine IsS83.far ?_ ab.out _) | exact HI203.out)⟩, ⟨by repeat (first | (with_reducible first | exact HB.out | apply below_alloc | apply pw_below_drewN | apply below_drew1 | refine below_set ?_ (IsS83.ge HI203.out) | refine below_set ?_ ai.out) | exact HB.out)⟩⟩

end Go.Proofs.YtdpogggajdfedaaDoor.P
