-- Printed by this session's program wip/xp.py (a turned copy of the kit's printer): functions, their contracts.
import Derived.Test.YtpgiagdpepkooaaDoorPx0
import Derived.Test.YtpgiagdpepkooaaDoorPx1
import Derived.Test.YtpgiagdpepkooaaDoorPx3
import Derived.Test.YtpgiagdpepkooaaDoorPx5
import Derived.Test.YtpgiagdpepkooaaDoorPx8
import Derived.Test.YtpgiagdpepkooaaDoorPx9
import Derived.Test.YtpgiagdpepkooaaDoorPx28
namespace Go.Proofs.YtpgiagdpepkooaaDoor.P
open Go.RowKit Go.Proofs.YtpgiagdpepkooaaDoorW.PrintWords Go.Proofs.YtpgiagdpepkooaaDoorW.PrintLast Go.Proofs.YtpgiagdpepkooaaDoorW.PrintMore
attribute [local go_sem] max2_int min2_int max_two min_two max_three min_three max_four min_four   -- for this text's walks alone
set_option linter.unusedVariables false
set_option linter.unusedSimpArgs false

attribute [local go_sem high] eqA23
/-! ### carillonlaw14_CommandBack: function 6 -/
mutual
def carillonlaw14_CommandBack.j0 : Nat → ByteArray → Bool → Int → ByteArray → ByteArray → Int → ByteArray → ByteArray → Int → Int → Int → Option (Bool)
 | 0, _, _, _, _, _, _, _, _, _, _, _ => none
 | k + 1, x1, x5, x669000, x669001, x669002, x669003, x669004, x669005, x669006, x669007, x669008 => (command_Request.f k x669000 x669001 x669002 x669003 x669004 x669005 x669006 x669007 x669008).bind fun bt684 => (if bt684.2 = 0 then ((command_Asked.f k bt684.1).bind fun bt686 => (if (!(bt686.1 == x669000) || (!(bt686.2.1.toList == x669001.toList) || (!(bt686.2.2.1.toList == x669002.toList) || (!(bt686.2.2.2.1 == x669003) || (!(bt686.2.2.2.2.1.toList == x669004.toList) || (!(bt686.2.2.2.2.2.1.toList == x669005.toList) || (!(bt686.2.2.2.2.2.2.1 == x669006) || (!(bt686.2.2.2.2.2.2.2.1 == x669007) || (!(bt686.2.2.2.2.2.2.2.2.1 == x669008)))))))))) = true then (some false) else (if bt686.2.2.2.2.2.2.2.2.2 = 0 then (carillonlaw14_CommandBack.j1 k x1 x5) else (some false)))) else (carillonlaw14_CommandBack.j1 k x1 x5))
def carillonlaw14_CommandBack.j1 : Nat → ByteArray → Bool → Option (Bool)
 | 0, _, _ => none
 | k + 1, x1, x5 => (command_Decode.f k x1).bind fun bt697 => (if bt697.2.2.2.2.2.2.2.2.2 = 0 then ((command_Encode.f k bt697.1 bt697.2.1 bt697.2.2.1 bt697.2.2.2.1 bt697.2.2.2.2.1 bt697.2.2.2.2.2.1 bt697.2.2.2.2.2.2.1 bt697.2.2.2.2.2.2.2.1 bt697.2.2.2.2.2.2.2.2.1).bind fun bt708 => (if bt708.1.toList = x1.toList then (if bt708.2 = 0 then (carillonlaw14_CommandBack.j2 k x1 x5) else (some false)) else (some false))) else (carillonlaw14_CommandBack.j2 k x1 x5))
def carillonlaw14_CommandBack.j2 : Nat → ByteArray → Bool → Option (Bool)
 | 0, _, _ => none
 | k + 1, x1, x5 => (command_Asked.f k x1).bind fun bt710 => (if bt710.2.2.2.2.2.2.2.2.2 = 0 then ((command_Request.f k bt710.1 bt710.2.1 bt710.2.2.1 bt710.2.2.2.1 bt710.2.2.2.2.1 bt710.2.2.2.2.2.1 bt710.2.2.2.2.2.2.1 bt710.2.2.2.2.2.2.2.1 bt710.2.2.2.2.2.2.2.2.1).bind fun bt721 => (if x5 = true then (if bt721.1.toList = x1.toList then (some (bt721.2 == 0)) else (some false)) else (some false))) else (if x5 = true then (some (bt710.1 == 0 && (bt710.2.1.toList == ([] : List UInt8) && (bt710.2.2.1.toList == ([] : List UInt8) && (bt710.2.2.2.1 == 0 && (bt710.2.2.2.2.1.toList == ([] : List UInt8) && (bt710.2.2.2.2.2.1.toList == ([] : List UInt8) && (bt710.2.2.2.2.2.2.1 == 0 && (bt710.2.2.2.2.2.2.2.1 == 0 && (bt710.2.2.2.2.2.2.2.2.1 == 0)))))))))) else (some false)))
end
def carillonlaw14_CommandBack.f (k : Nat) (a0_0 : Int) (a0_1 : ByteArray) (a0_2 : ByteArray) (a0_3 : Int) (a0_4 : ByteArray) (a0_5 : ByteArray) (a0_6 : Int) (a0_7 : Int) (a0_8 : Int) (a1 : ByteArray) : Option (Bool) := (carillonlaw14_examples.f).bind fun t669 => ((command_Encode.f k a0_0 a0_1 a0_2 a0_3 a0_4 a0_5 a0_6 a0_7 a0_8).bind fun bt670 => ((command_Right.f a0_0 a0_1 a0_2 a0_3 a0_4 a0_5 a0_6 a0_7 a0_8).bind fun t672 => (if ((bt670.2 == 0) != t672) = true then (some false) else (if bt670.2 = 0 then ((command_Decode.f k bt670.1).bind fun bt673 => (if (!(bt673.1 == a0_0) || (!(bt673.2.1.toList == a0_1.toList) || (!(bt673.2.2.1.toList == a0_2.toList) || (!(bt673.2.2.2.1 == a0_3) || (!(bt673.2.2.2.2.1.toList == a0_4.toList) || (!(bt673.2.2.2.2.2.1.toList == a0_5.toList) || (!(bt673.2.2.2.2.2.2.1 == a0_6) || (!(bt673.2.2.2.2.2.2.2.1 == a0_7) || (!(bt673.2.2.2.2.2.2.2.2.1 == a0_8)))))))))) = true then (some false) else (if bt673.2.2.2.2.2.2.2.2.2 = 0 then (carillonlaw14_CommandBack.j0 k a1 t669 a0_0 a0_1 a0_2 a0_3 a0_4 a0_5 a0_6 a0_7 a0_8) else (some false)))) else (carillonlaw14_CommandBack.j0 k a1 t669 a0_0 a0_1 a0_2 a0_3 a0_4 a0_5 a0_6 a0_7 a0_8)))))
theorem carillonlaw14_CommandBack.mono_l : ∀ k, (∀ y0 y1 y2 y3 y4 y5 y6 y7 y8 y9 y10, LeO (carillonlaw14_CommandBack.j0 k y0 y1 y2 y3 y4 y5 y6 y7 y8 y9 y10) (carillonlaw14_CommandBack.j0 (k + 1) y0 y1 y2 y3 y4 y5 y6 y7 y8 y9 y10)) ∧ (∀ y0 y1, LeO (carillonlaw14_CommandBack.j1 k y0 y1) (carillonlaw14_CommandBack.j1 (k + 1) y0 y1)) ∧ (∀ y0 y1, LeO (carillonlaw14_CommandBack.j2 k y0 y1) (carillonlaw14_CommandBack.j2 (k + 1) y0 y1))
 | 0 => ⟨fun _ _ _ _ _ _ _ _ _ _ _ r h => by simp [carillonlaw14_CommandBack.j0] at h, fun _ _ r h => by simp [carillonlaw14_CommandBack.j1] at h, fun _ _ r h => by simp [carillonlaw14_CommandBack.j2] at h⟩
 | k + 1 => by
  obtain ⟨ih0, ih1, ih2⟩ := carillonlaw14_CommandBack.mono_l k
  refine ⟨?_, ?_, ?_⟩
  ·intro y0 y1 y2 y3 y4 y5 y6 y7 y8 y9 y10
   unfold carillonlaw14_CommandBack.j0
   repeat' first
   | (with_reducible exact ih0 _ _ _ _ _ _ _ _ _ _ _)
   | (with_reducible exact ih1 _ _)
   | (with_reducible exact ih2 _ _)
   | (with_reducible exact command_Asked.mono _ _)
   | (with_reducible exact command_Decode.mono _ _)
   | (with_reducible exact command_Encode.mono _ _ _ _ _ _ _ _ _ _)
   | (with_reducible exact command_Request.mono _ _ _ _ _ _ _ _ _ _)
   | (with_reducible exact LeO.refl _)
   | (with_reducible exact LeO.none _)
   | (with_reducible refine LeO.ite ?_ ?_)
   | (with_reducible refine LeO.bind ?_ (fun _ => ?_))
   | exact ih0 _ _ _ _ _ _ _ _ _ _ _
   | exact ih1 _ _
   | exact ih2 _ _
   | exact command_Asked.mono _ _
   | exact command_Decode.mono _ _
   | exact command_Encode.mono _ _ _ _ _ _ _ _ _ _
   | exact command_Request.mono _ _ _ _ _ _ _ _ _ _
   | exact LeO.none _
   | refine LeO.ite ?_ ?_
   | refine LeO.bind ?_ (fun _ => ?_)
  ·intro y0 y1
   unfold carillonlaw14_CommandBack.j1
   repeat' first
   | (with_reducible exact ih0 _ _ _ _ _ _ _ _ _ _ _)
   | (with_reducible exact ih1 _ _)
   | (with_reducible exact ih2 _ _)
   | (with_reducible exact command_Asked.mono _ _)
   | (with_reducible exact command_Decode.mono _ _)
   | (with_reducible exact command_Encode.mono _ _ _ _ _ _ _ _ _ _)
   | (with_reducible exact command_Request.mono _ _ _ _ _ _ _ _ _ _)
   | (with_reducible exact LeO.refl _)
   | (with_reducible exact LeO.none _)
   | (with_reducible refine LeO.ite ?_ ?_)
   | (with_reducible refine LeO.bind ?_ (fun _ => ?_))
   | exact ih0 _ _ _ _ _ _ _ _ _ _ _
   | exact ih1 _ _
   | exact ih2 _ _
   | exact command_Asked.mono _ _
   | exact command_Decode.mono _ _
   | exact command_Encode.mono _ _ _ _ _ _ _ _ _ _
   | exact command_Request.mono _ _ _ _ _ _ _ _ _ _
   | exact LeO.none _
   | refine LeO.ite ?_ ?_
   | refine LeO.bind ?_ (fun _ => ?_)
  ·intro y0 y1
   unfold carillonlaw14_CommandBack.j2
   repeat' first
   | (with_reducible exact ih0 _ _ _ _ _ _ _ _ _ _ _)
   | (with_reducible exact ih1 _ _)
   | (with_reducible exact ih2 _ _)
   | (with_reducible exact command_Asked.mono _ _)
   | (with_reducible exact command_Decode.mono _ _)
   | (with_reducible exact command_Encode.mono _ _ _ _ _ _ _ _ _ _)
   | (with_reducible exact command_Request.mono _ _ _ _ _ _ _ _ _ _)
   | (with_reducible exact LeO.refl _)
   | (with_reducible exact LeO.none _)
   | (with_reducible refine LeO.ite ?_ ?_)
   | (with_reducible refine LeO.bind ?_ (fun _ => ?_))
   | exact ih0 _ _ _ _ _ _ _ _ _ _ _
   | exact ih1 _ _
   | exact ih2 _ _
   | exact command_Asked.mono _ _
   | exact command_Decode.mono _ _
   | exact command_Encode.mono _ _ _ _ _ _ _ _ _ _
   | exact command_Request.mono _ _ _ _ _ _ _ _ _ _
   | exact LeO.none _
   | refine LeO.ite ?_ ?_
   | refine LeO.bind ?_ (fun _ => ?_)
theorem carillonlaw14_CommandBack.mono : ∀ a0 a1 a2 a3 a4 a5 a6 a7 a8 a9 k, LeO (carillonlaw14_CommandBack.f k a0 a1 a2 a3 a4 a5 a6 a7 a8 a9) (carillonlaw14_CommandBack.f (k + 1) a0 a1 a2 a3 a4 a5 a6 a7 a8 a9) := by
 intro a0 a1 a2 a3 a4 a5 a6 a7 a8 a9 k
 obtain ⟨ih0, ih1, ih2⟩ := carillonlaw14_CommandBack.mono_l k
 unfold carillonlaw14_CommandBack.f
 repeat' first
   | (with_reducible exact ih0 _ _ _ _ _ _ _ _ _ _ _)
   | (with_reducible exact ih1 _ _)
   | (with_reducible exact ih2 _ _)
   | (with_reducible exact command_Asked.mono _ _)
   | (with_reducible exact command_Decode.mono _ _)
   | (with_reducible exact command_Encode.mono _ _ _ _ _ _ _ _ _ _)
   | (with_reducible exact command_Request.mono _ _ _ _ _ _ _ _ _ _)
   | (with_reducible exact LeO.refl _)
   | (with_reducible exact LeO.none _)
   | (with_reducible refine LeO.ite ?_ ?_)
   | (with_reducible refine LeO.bind ?_ (fun _ => ?_))
   | exact ih0 _ _ _ _ _ _ _ _ _ _ _
   | exact ih1 _ _
   | exact ih2 _ _
   | exact command_Asked.mono _ _
   | exact command_Decode.mono _ _
   | exact command_Encode.mono _ _ _ _ _ _ _ _ _ _
   | exact command_Request.mono _ _ _ _ _ _ _ _ _ _
   | exact LeO.none _
   | refine LeO.ite ?_ ?_
   | refine LeO.bind ?_ (fun _ => ?_)
set_option maxHeartbeats 8000000 in
set_option maxRecDepth 100000 in
theorem carillonlaw14_CommandBack.calls (k : Nat) (a0_0 : Int) (a0_1 : ByteArray) (a0_2 : ByteArray) (a0_3 : Int) (a0_4 : ByteArray) (a0_5 : ByteArray) (a0_6 : Int) (a0_7 : Int) (a0_8 : Int) (a1 : ByteArray) (r : Bool) (w : World) (hr_ : Aside0 (r = true)) (HT_ : TabOk w) (h : carillonlaw14_CommandBack.f k a0_0 a0_1 a0_2 a0_3 a0_4 a0_5 a0_6 a0_7 a0_8 a1 = some r) :
  Calls Tryd.prog 6 #[.agg #[.int .i64 a0_0, .string a0_1, .string a0_2, .int .i64 a0_3, .string a0_4, .string a0_5, .int .i64 a0_6, .int .i64 a0_7, .int .i64 a0_8], .string a1] w fun e w' => e = .returned (.bool r) ∧ Below w.heap.size w w' := by
 have HT := Aside0.mk HT_
 clear HT_
 have hu23 := Tryd.underlying23
 have HB := Aside0.mk (Below.refl w.heap.size w)
 have H : ((carillonlaw14_examples.f).bind fun t669 => ((command_Encode.f k a0_0 a0_1 a0_2 a0_3 a0_4 a0_5 a0_6 a0_7 a0_8).bind fun bt670 => ((command_Right.f a0_0 a0_1 a0_2 a0_3 a0_4 a0_5 a0_6 a0_7 a0_8).bind fun t672 => (if ((bt670.2 == 0) != t672) = true then (some false) else (if bt670.2 = 0 then ((command_Decode.f k bt670.1).bind fun bt673 => (if (!(bt673.1 == a0_0) || (!(bt673.2.1.toList == a0_1.toList) || (!(bt673.2.2.1.toList == a0_2.toList) || (!(bt673.2.2.2.1 == a0_3) || (!(bt673.2.2.2.2.1.toList == a0_4.toList) || (!(bt673.2.2.2.2.2.1.toList == a0_5.toList) || (!(bt673.2.2.2.2.2.2.1 == a0_6) || (!(bt673.2.2.2.2.2.2.2.1 == a0_7) || (!(bt673.2.2.2.2.2.2.2.2.1 == a0_8)))))))))) = true then (some false) else (if bt673.2.2.2.2.2.2.2.2.2 = 0 then (carillonlaw14_CommandBack.j0 k a1 t669 a0_0 a0_1 a0_2 a0_3 a0_4 a0_5 a0_6 a0_7 a0_8) else (some false)))) else (carillonlaw14_CommandBack.j0 k a1 t669 a0_0 a0_1 a0_2 a0_3 a0_4 a0_5 a0_6 a0_7 a0_8)))))) = some r := h
 clear h
 replace H := Option.bind_eq_some_iff.mp H
 obtain ⟨t669, A30, H⟩ := H
 replace H : ((command_Encode.f k a0_0 a0_1 a0_2 a0_3 a0_4 a0_5 a0_6 a0_7 a0_8).bind fun bt670 => ((command_Right.f a0_0 a0_1 a0_2 a0_3 a0_4 a0_5 a0_6 a0_7 a0_8).bind fun t672 => (if ((bt670.2 == 0) != t672) = true then (some false) else (if bt670.2 = 0 then ((command_Decode.f k bt670.1).bind fun bt673 => (if (!(bt673.1 == a0_0) || (!(bt673.2.1.toList == a0_1.toList) || (!(bt673.2.2.1.toList == a0_2.toList) || (!(bt673.2.2.2.1 == a0_3) || (!(bt673.2.2.2.2.1.toList == a0_4.toList) || (!(bt673.2.2.2.2.2.1.toList == a0_5.toList) || (!(bt673.2.2.2.2.2.2.1 == a0_6) || (!(bt673.2.2.2.2.2.2.2.1 == a0_7) || (!(bt673.2.2.2.2.2.2.2.2.1 == a0_8)))))))))) = true then (some false) else (if bt673.2.2.2.2.2.2.2.2.2 = 0 then (carillonlaw14_CommandBack.j0 k a1 t669 a0_0 a0_1 a0_2 a0_3 a0_4 a0_5 a0_6 a0_7 a0_8) else (some false)))) else (carillonlaw14_CommandBack.j0 k a1 t669 a0_0 a0_1 a0_2 a0_3 a0_4 a0_5 a0_6 a0_7 a0_8))))) = some r := H
 have A3 := Aside0.mk A30
 clear A30
 replace H := Option.bind_eq_some_iff.mp H
 obtain ⟨⟨t670, t671⟩, A40, H⟩ := H
 replace H : ((command_Right.f a0_0 a0_1 a0_2 a0_3 a0_4 a0_5 a0_6 a0_7 a0_8).bind fun t672 => (if ((t671 == 0) != t672) = true then (some false) else (if t671 = 0 then ((command_Decode.f k t670).bind fun bt673 => (if (!(bt673.1 == a0_0) || (!(bt673.2.1.toList == a0_1.toList) || (!(bt673.2.2.1.toList == a0_2.toList) || (!(bt673.2.2.2.1 == a0_3) || (!(bt673.2.2.2.2.1.toList == a0_4.toList) || (!(bt673.2.2.2.2.2.1.toList == a0_5.toList) || (!(bt673.2.2.2.2.2.2.1 == a0_6) || (!(bt673.2.2.2.2.2.2.2.1 == a0_7) || (!(bt673.2.2.2.2.2.2.2.2.1 == a0_8)))))))))) = true then (some false) else (if bt673.2.2.2.2.2.2.2.2.2 = 0 then (carillonlaw14_CommandBack.j0 k a1 t669 a0_0 a0_1 a0_2 a0_3 a0_4 a0_5 a0_6 a0_7 a0_8) else (some false)))) else (carillonlaw14_CommandBack.j0 k a1 t669 a0_0 a0_1 a0_2 a0_3 a0_4 a0_5 a0_6 a0_7 a0_8)))) = some r := H
 have A4 := Aside0.mk A40
 clear A40
 replace H := Option.bind_eq_some_iff.mp H
 obtain ⟨t672, A50, H⟩ := H
 replace H : (if ((t671 == 0) != t672) = true then (some false) else (if t671 = 0 then ((command_Decode.f k t670).bind fun bt673 => (if (!(bt673.1 == a0_0) || (!(bt673.2.1.toList == a0_1.toList) || (!(bt673.2.2.1.toList == a0_2.toList) || (!(bt673.2.2.2.1 == a0_3) || (!(bt673.2.2.2.2.1.toList == a0_4.toList) || (!(bt673.2.2.2.2.2.1.toList == a0_5.toList) || (!(bt673.2.2.2.2.2.2.1 == a0_6) || (!(bt673.2.2.2.2.2.2.2.1 == a0_7) || (!(bt673.2.2.2.2.2.2.2.2.1 == a0_8)))))))))) = true then (some false) else (if bt673.2.2.2.2.2.2.2.2.2 = 0 then (carillonlaw14_CommandBack.j0 k a1 t669 a0_0 a0_1 a0_2 a0_3 a0_4 a0_5 a0_6 a0_7 a0_8) else (some false)))) else (carillonlaw14_CommandBack.j0 k a1 t669 a0_0 a0_1 a0_2 a0_3 a0_4 a0_5 a0_6 a0_7 a0_8))) = some r := H
 have A5 := Aside0.mk A50
 clear A50
 by_cases c6 : ((t671 == 0) != t672) = true
 ·rw [if_pos c6] at H
  have fc : ((t671 == 0) != t672) = true := c6
  (try (have fd : decide ((t671 == 0) = t672) = false := by simpa using c6))
  (try (have fe : ((t671 == 0) == t672) = false := by simpa using c6))
  (try (have c6b3 : ¬ ((t671 == 0) = t672) := by simpa using c6))
  clear c6
  exact absurd ((Option.some.inj H).trans hr_.out) (by decide)
 rw [if_neg c6] at H
 have fc : ((t671 == 0) != t672) = false := by simpa using c6
 (try (have fd : decide ((t671 == 0) = t672) = true := by simpa using c6))
 (try (have fe : ((t671 == 0) == t672) = true := by simpa using c6))
 clear c6
 have HC7 := Aside0.mk H
 clear H
 go_enter Tryd.func6, Tryd.ntmps6
 go_upto_if 34 with (first | ((with_reducible refine gate_dst (N := 2) rfl ?_); refine box_event ?hg (N := 2) ?hd (cs := #[.int .i64 a0_0, .string a0_1, .string a0_2, .int .i64 a0_3, .string a0_4, .string a0_5, .int .i64 a0_6, .int .i64 a0_7, .int .i64 a0_8]) (t := 23) ?hr ?_; (case hd => rfl); (case hg => rfl); (case hr => first | (go_simp; done) | (go_simp; rfl)); intro ac hg w8 hbox hb; have n0_ := Aside0.mk (below_step bw hb); have n1_ := Aside0.mk (hbox); have n2_ := Aside0.mk ((g1 hg bw : w.heap.size ≤ ac)); have n3_ := Aside0.mk ((g1 hg bw : w.heap.size ≤ ac)); clear HB; have HB := n0_; have aa := n1_; have GW668 := n2_; have GE668 := n3_; clear n0_ n1_ n2_ n3_; clear hb hbox hg) | ((with_reducible refine gate_callee (f := 11) rfl ?_); refine goesL_ (some 22) rfl rfl Tryd.func11 (by kernel_rfl) rfl #[] rfl am ?_; (with_reducible refine (carillonlaw14_examples.calls  t669 _ tbk A3.out).mono ?_); rintro e w9 ⟨rfl, hb⟩; refine ⟨_, rfl, ?_⟩; have n0_ := Aside0.mk (nb aa.out hb); have n1_ := Aside0.mk (below_step bw hb); clear aa; clear HB; have aa := n0_; have HB := n1_; clear n0_ n1_; (try clear hb); obtain ⟨au, av, aw, ax, ay, az, ba, bb, bc, bd, be, bf, bg, bh, bi, bj, bl, bm⟩ := bx9 aa.out) | ((with_reducible refine gate_callee (f := 12) rfl ?_); refine goesL_ (some 25) rfl rfl Tryd.func12 (by kernel_rfl) rfl #[.agg #[.int .i64 a0_0, .string a0_1, .string a0_2, .int .i64 a0_3, .string a0_4, .string a0_5, .int .i64 a0_6, .int .i64 a0_7, .int .i64 a0_8]] rfl am ?_; (with_reducible refine (command_Encode.calls k a0_0 a0_1 a0_2 a0_3 a0_4 a0_5 a0_6 a0_7 a0_8 t670 t671 _ tbk A4.out).mono ?_); rintro e w11 ⟨rfl, hb⟩; refine ⟨_, rfl, ?_⟩; have n0_ := Aside0.mk (nb aa.out hb); have n1_ := Aside0.mk (below_step bw hb); clear aa; clear HB; have aa := n0_; have HB := n1_; clear n0_ n1_; (try clear hb); obtain ⟨bn, bo, bp, bq, br, bs, bu, bv, bx, b0, b1, b2, b3, b4, b5, b6, b7, b8⟩ := bx9 aa.out) | ((with_reducible refine gate_callee (f := 16) rfl ?_); refine goesL_ (some 31) rfl rfl Tryd.func16 (by kernel_rfl) rfl #[.agg #[.int .i64 a0_0, .string a0_1, .string a0_2, .int .i64 a0_3, .string a0_4, .string a0_5, .int .i64 a0_6, .int .i64 a0_7, .int .i64 a0_8]] rfl am ?_; (with_reducible refine (command_Right.calls a0_0 a0_1 a0_2 a0_3 a0_4 a0_5 a0_6 a0_7 a0_8 t672 _ A5.out).mono ?_); rintro e w13 ⟨rfl, hb⟩; refine ⟨_, rfl, ?_⟩; have n0_ := Aside0.mk (nb aa.out hb); have n1_ := Aside0.mk (below_step bw hb); clear aa; clear HB; have aa := n0_; have HB := n1_; clear n0_ n1_; (try clear hb)))
 (try simp only [Act.put, sl1, sl2, sl3])
 go_cut [] (fun wc => ∃ (kq : Nat), Aside0 (carillonlaw14_CommandBack.j0 kq a1 t669 a0_0 a0_1 a0_2 a0_3 a0_4 a0_5 a0_6 a0_7 a0_8 = some r) ∧ Aside0 (kq ≤ k) ∧ Aside0 (wc.heap[ac]? = some (.cells #[.int .i64 a0_0, .string a0_1, .string a0_2, .int .i64 a0_3, .string a0_4, .string a0_5, .int .i64 a0_6, .int .i64 a0_7, .int .i64 a0_8] 23 (0, 0))) ∧ Aside0 (Below w.heap.size w wc))
 case first =>
  have H := HC7.out
  clear HC7
  by_cases c14 : t671 = 0; rotate_left
  ·rw [if_neg c14] at H
   have ak : (t671 == 0) = false := beq_eq_false_iff_ne.mpr c14
   have dh : (t671 != 0) = true := bne_iff_ne.mpr c14
   (first | rw [ak] | (simp only [i64_w, i32_w]; rw [ak]) | skip)
   have H' := Aside0.mk H
   clear H
   go_wp2
   go_meet
   case rel => exact ⟨_, H', ⟨by first | omega | exact Nat.le_refl _⟩, ⟨by (with_reducible repeat (first | refine blk_drewN ?_ _ | refine blk_drew ?_ | refine blk_alloc ?_ _)); exact aa.out⟩, ⟨bw⟩⟩
  rw [if_pos c14] at H
  have ak : (t671 == 0) = true := beq_iff_eq.mpr c14
  have dh : (t671 != 0) = false := bne_eq_false_iff_eq.mpr c14
  clear c14
  (first | rw [ak] | (simp only [i64_w, i32_w]; rw [ak]) | skip)
  replace H := Option.bind_eq_some_iff.mp H
  obtain ⟨⟨t673, t674, t675, t676, t677, t678, t679, t680, t681, t682⟩, A150, H⟩ := H
  replace H : (if (!(t673 == a0_0) || (!(t674.toList == a0_1.toList) || (!(t675.toList == a0_2.toList) || (!(t676 == a0_3) || (!(t677.toList == a0_4.toList) || (!(t678.toList == a0_5.toList) || (!(t679 == a0_6) || (!(t680 == a0_7) || (!(t681 == a0_8)))))))))) = true then (some false) else (if t682 = 0 then (carillonlaw14_CommandBack.j0 k a1 t669 a0_0 a0_1 a0_2 a0_3 a0_4 a0_5 a0_6 a0_7 a0_8) else (some false))) = some r := H
  have A15 := Aside0.mk A150
  clear A150
  by_cases c16 : (!(t673 == a0_0) || (!(t674.toList == a0_1.toList) || (!(t675.toList == a0_2.toList) || (!(t676 == a0_3) || (!(t677.toList == a0_4.toList) || (!(t678.toList == a0_5.toList) || (!(t679 == a0_6) || (!(t680 == a0_7) || (!(t681 == a0_8)))))))))) = true
  ·rw [if_pos c16] at H
   have di : (!(t673 == a0_0) || (!(t674.toList == a0_1.toList) || (!(t675.toList == a0_2.toList) || (!(t676 == a0_3) || (!(t677.toList == a0_4.toList) || (!(t678.toList == a0_5.toList) || (!(t679 == a0_6) || (!(t680 == a0_7) || (!(t681 == a0_8)))))))))) = true := c16
   (try (have dj : (t673 == a0_0 && (t674.toList == a0_1.toList && (t675.toList == a0_2.toList && (t676 == a0_3 && (t677.toList == a0_4.toList && (t678.toList == a0_5.toList && (t679 == a0_6 && (t680 == a0_7 && (t681 == a0_8))))))))) = false := by have e_ : (t673 == a0_0 && (t674.toList == a0_1.toList && (t675.toList == a0_2.toList && (t676 == a0_3 && (t677.toList == a0_4.toList && (t678.toList == a0_5.toList && (t679 == a0_6 && (t680 == a0_7 && (t681 == a0_8))))))))) = (!(!(t673 == a0_0) || (!(t674.toList == a0_1.toList) || (!(t675.toList == a0_2.toList) || (!(t676 == a0_3) || (!(t677.toList == a0_4.toList) || (!(t678.toList == a0_5.toList) || (!(t679 == a0_6) || (!(t680 == a0_7) || (!(t681 == a0_8))))))))))) := (by simp only [Bool.not_or, Bool.not_and, Bool.not_not]); rw [e_]; first | (simp only [c16, Bool.not_true]; done) | (simp only [Bool.eq_false_iff.mpr c16, Bool.not_false]; done)))
   clear c16
   exact absurd ((Option.some.inj H).trans hr_.out) (by decide)
  rw [if_neg c16] at H
  have di : (!(t673 == a0_0) || (!(t674.toList == a0_1.toList) || (!(t675.toList == a0_2.toList) || (!(t676 == a0_3) || (!(t677.toList == a0_4.toList) || (!(t678.toList == a0_5.toList) || (!(t679 == a0_6) || (!(t680 == a0_7) || (!(t681 == a0_8)))))))))) = false := by simpa using c16
  (try (have dj : (t673 == a0_0 && (t674.toList == a0_1.toList && (t675.toList == a0_2.toList && (t676 == a0_3 && (t677.toList == a0_4.toList && (t678.toList == a0_5.toList && (t679 == a0_6 && (t680 == a0_7 && (t681 == a0_8))))))))) = true := by have e_ : (t673 == a0_0 && (t674.toList == a0_1.toList && (t675.toList == a0_2.toList && (t676 == a0_3 && (t677.toList == a0_4.toList && (t678.toList == a0_5.toList && (t679 == a0_6 && (t680 == a0_7 && (t681 == a0_8))))))))) = (!(!(t673 == a0_0) || (!(t674.toList == a0_1.toList) || (!(t675.toList == a0_2.toList) || (!(t676 == a0_3) || (!(t677.toList == a0_4.toList) || (!(t678.toList == a0_5.toList) || (!(t679 == a0_6) || (!(t680 == a0_7) || (!(t681 == a0_8))))))))))) := (by simp only [Bool.not_or, Bool.not_and, Bool.not_not]); rw [e_]; first | (simp only [c16, Bool.not_true]; done) | (simp only [Bool.eq_false_iff.mpr c16, Bool.not_false]; done)))
  clear c16
  by_cases c17 : t682 = 0; rotate_left
  ·rw [if_neg c17] at H
   have dk : (t682 == 0) = false := beq_eq_false_iff_ne.mpr c17
   have dl : (t682 != 0) = true := bne_iff_ne.mpr c17
   exact absurd ((Option.some.inj H).trans hr_.out) (by decide)
  rw [if_pos c17] at H
  have dk : (t682 == 0) = true := beq_iff_eq.mpr c17
  have dl : (t682 != 0) = false := bne_eq_false_iff_eq.mpr c17
  clear c17
  have H' := Aside0.mk H
  clear H
  go_wp2_with (first | ((with_reducible refine gate_callee (f := 14) rfl ?_); refine goesL_ (some 37) rfl rfl Tryd.func14 (by kernel_rfl) rfl #[.string t670] rfl am ?_; (with_reducible refine (command_Decode.calls k t670 t673 t674 t675 t676 t677 t678 t679 t680 t681 t682 _ tbk A15.out).mono ?_); rintro e w18 ⟨rfl, hb⟩; refine ⟨_, rfl, ?_⟩; have n0_ := Aside0.mk (nb aa.out hb); have n1_ := Aside0.mk (below_step bw hb); clear aa; clear HB; have aa := n0_; have HB := n1_; clear n0_ n1_; (try clear hb)) | ((with_reducible refine gate_dst (N := 8) rfl ?_); refine box_event ?hg (N := 8) ?hd (cs := #[.int .i64 0, .string (⟨#[]⟩ : ByteArray), .string (⟨#[]⟩ : ByteArray), .int .i64 0, .string (⟨#[]⟩ : ByteArray), .string (⟨#[]⟩ : ByteArray), .int .i64 0, .int .i64 0, .int .i64 0]) (t := 23) ?hr ?_; (case hd => rfl); (case hg => rfl); (case hr => first | (go_simp; done) | (go_simp; rfl)); intro dm hg w19 hbox hb; have n0_ := Aside0.mk (nb aa.out hb); have n1_ := Aside0.mk (below_step bw hb); have n2_ := Aside0.mk (hbox); have n3_ := Aside0.mk ((g1 hg bw : w.heap.size ≤ dm)); have n4_ := Aside0.mk ((g1 hg bw : w.heap.size ≤ dm)); have n5_ := Aside0.mk ((n1 hg aa.out : ac ≠ dm)); have n6_ := Aside0.mk ((n2 hg aa.out : dm ≠ ac)); clear aa; clear HB; have aa := n0_; have HB := n1_; have BK683 := n2_; have GW683 := n3_; have GE683 := n4_; have an := n5_; have NB683_668 := n6_; clear n0_ n1_ n2_ n3_ n4_ n5_ n6_; clear hb hbox hg; have hnb20 := NB683_668.out; have hnc20 := an.out; obtain ⟨b9, ca, cb, cc, cd, ce, cg, ch, ci, cj, ck, cl, cm, cn, co, cp, cq, cr⟩ := bx9 BK683.out; obtain ⟨ct, cu, cv, cw, cx, cy, cz, c0, c5, c7, c8, c9, da, db, dc, dd, de, df⟩ := bx9 aa.out))
  go_meet
  case rel => exact ⟨_, H', ⟨by first | omega | exact Nat.le_refl _⟩, ⟨by (with_reducible repeat (first | refine blk_drewN ?_ _ | refine blk_drew ?_ | refine blk_alloc ?_ _ | refine blk_far ?_ an.out _)); exact aa.out⟩, ⟨bw⟩⟩
 case rest =>
  clear HC7
  try clear c1
  try clear c2
  try clear p2
  try clear c6
  try clear fc
  try clear fd
  try clear fe
  try clear c11
  try clear c12
  try clear c14
  try clear ak
  try clear dh
  try clear c16
  try clear di
  try clear dj
  try clear c17
  try clear dk
  try clear dl
  try clear c20
  try clear au av aw ax ay az ba bb bc bn bo bp bq br bs bu bv bx b9 ca cb cc cd ce cg ch ci ct cu cv cw cx cy cz c0 c5
  try clear bd be bf bg bh bi bj bl bm b0 b1 b2 b3 b4 b5 b6 b7 b8 cj ck cl cm cn co cp cq cr c7 c8 c9 da db dc dd de df
  obtain ⟨kq, HA, HJ6, aa, HB⟩ := hcut
  cases kq with
  | zero => exact absurd HA.out (by simp [carillonlaw14_CommandBack.j0])
  | succ kj6 =>
   have H := HA.out
   clear HA
   simp only [carillonlaw14_CommandBack.j0] at H
   replace H := Option.bind_eq_some_iff.mp H
   obtain ⟨⟨t684, t685⟩, A230, H⟩ := H
   replace H : (if t685 = 0 then ((command_Asked.f kj6 t684).bind fun bt686 => (if (!(bt686.1 == a0_0) || (!(bt686.2.1.toList == a0_1.toList) || (!(bt686.2.2.1.toList == a0_2.toList) || (!(bt686.2.2.2.1 == a0_3) || (!(bt686.2.2.2.2.1.toList == a0_4.toList) || (!(bt686.2.2.2.2.2.1.toList == a0_5.toList) || (!(bt686.2.2.2.2.2.2.1 == a0_6) || (!(bt686.2.2.2.2.2.2.2.1 == a0_7) || (!(bt686.2.2.2.2.2.2.2.2.1 == a0_8)))))))))) = true then (some false) else (if bt686.2.2.2.2.2.2.2.2.2 = 0 then (carillonlaw14_CommandBack.j1 kj6 a1 t669) else (some false)))) else (carillonlaw14_CommandBack.j1 kj6 a1 t669)) = some r := H
   have A23 := Aside0.mk A230
   clear A230
   have HC24 := Aside0.mk H
   clear H
   obtain ⟨dn, dp, dq, dr, ds, dt, du, dv, dw, dx, dy, dz, d0, d1, d2, d3, d4, d5⟩ := bx9 aa.out
   go_upto_if 53 with (first | ((with_reducible refine gate_callee (f := 20) rfl ?_); refine goesL_ (some 49) rfl rfl Tryd.func20 (by kernel_rfl) rfl #[.agg #[.int .i64 a0_0, .string a0_1, .string a0_2, .int .i64 a0_3, .string a0_4, .string a0_5, .int .i64 a0_6, .int .i64 a0_7, .int .i64 a0_8]] rfl am ?_; (with_reducible refine (command_Request.calls kj6 a0_0 a0_1 a0_2 a0_3 a0_4 a0_5 a0_6 a0_7 a0_8 t684 t685 _ tbk A23.out).mono ?_); rintro e w26 ⟨rfl, hb⟩; refine ⟨_, rfl, ?_⟩; have n0_ := Aside0.mk (nb aa.out hb); have n1_ := Aside0.mk (below_step bw hb); clear aa; clear HB; have aa := n0_; have HB := n1_; clear n0_ n1_; (try clear hb)))
   (try simp only [Act.put, sl1, sl2, sl3])
   go_cut [] (fun wc => ∃ (kq : Nat), Aside0 (carillonlaw14_CommandBack.j1 kq a1 t669 = some r) ∧ Aside0 (kq ≤ kj6) ∧ Aside0 (wc.heap[ac]? = some (.cells #[.int .i64 a0_0, .string a0_1, .string a0_2, .int .i64 a0_3, .string a0_4, .string a0_5, .int .i64 a0_6, .int .i64 a0_7, .int .i64 a0_8] 23 (0, 0))) ∧ Aside0 (Below w.heap.size w wc))
   case first =>
    have H := HC24.out
    clear HC24
    by_cases c27 : t685 = 0; rotate_left
    ·rw [if_neg c27] at H
     have al : (t685 == 0) = false := beq_eq_false_iff_ne.mpr c27
     have e8 : (t685 != 0) = true := bne_iff_ne.mpr c27
     (first | rw [al] | (simp only [i64_w, i32_w]; rw [al]) | skip)
     have H' := Aside0.mk H
     clear H
     go_wp2
     go_meet
     case rel => exact ⟨_, H', ⟨by have := HJ6.out; first | omega | exact Nat.le_refl _⟩, ⟨by (with_reducible repeat (first | refine blk_drewN ?_ _ | refine blk_drew ?_ | refine blk_alloc ?_ _)); exact aa.out⟩, ⟨bw⟩⟩
    rw [if_pos c27] at H
    have al : (t685 == 0) = true := beq_iff_eq.mpr c27
    have e8 : (t685 != 0) = false := bne_eq_false_iff_eq.mpr c27
    clear c27
    (first | rw [al] | (simp only [i64_w, i32_w]; rw [al]) | skip)
    replace H := Option.bind_eq_some_iff.mp H
    obtain ⟨⟨t686, t687, t688, t689, t690, t691, t692, t693, t694, t695⟩, A280, H⟩ := H
    replace H : (if (!(t686 == a0_0) || (!(t687.toList == a0_1.toList) || (!(t688.toList == a0_2.toList) || (!(t689 == a0_3) || (!(t690.toList == a0_4.toList) || (!(t691.toList == a0_5.toList) || (!(t692 == a0_6) || (!(t693 == a0_7) || (!(t694 == a0_8)))))))))) = true then (some false) else (if t695 = 0 then (carillonlaw14_CommandBack.j1 kj6 a1 t669) else (some false))) = some r := H
    have A28 := Aside0.mk A280
    clear A280
    by_cases c29 : (!(t686 == a0_0) || (!(t687.toList == a0_1.toList) || (!(t688.toList == a0_2.toList) || (!(t689 == a0_3) || (!(t690.toList == a0_4.toList) || (!(t691.toList == a0_5.toList) || (!(t692 == a0_6) || (!(t693 == a0_7) || (!(t694 == a0_8)))))))))) = true
    ·rw [if_pos c29] at H
     have e9 : (!(t686 == a0_0) || (!(t687.toList == a0_1.toList) || (!(t688.toList == a0_2.toList) || (!(t689 == a0_3) || (!(t690.toList == a0_4.toList) || (!(t691.toList == a0_5.toList) || (!(t692 == a0_6) || (!(t693 == a0_7) || (!(t694 == a0_8)))))))))) = true := c29
     clear c29
     exact absurd ((Option.some.inj H).trans hr_.out) (by decide)
    rw [if_neg c29] at H
    have e9 : (!(t686 == a0_0) || (!(t687.toList == a0_1.toList) || (!(t688.toList == a0_2.toList) || (!(t689 == a0_3) || (!(t690.toList == a0_4.toList) || (!(t691.toList == a0_5.toList) || (!(t692 == a0_6) || (!(t693 == a0_7) || (!(t694 == a0_8)))))))))) = false := by simpa using c29
    clear c29
    by_cases c30 : t695 = 0; rotate_left
    ·rw [if_neg c30] at H
     have fa : (t695 == 0) = false := beq_eq_false_iff_ne.mpr c30
     have fb : (t695 != 0) = true := bne_iff_ne.mpr c30
     exact absurd ((Option.some.inj H).trans hr_.out) (by decide)
    rw [if_pos c30] at H
    have fa : (t695 == 0) = true := beq_iff_eq.mpr c30
    have fb : (t695 != 0) = false := bne_eq_false_iff_eq.mpr c30
    clear c30
    have H' := Aside0.mk H
    clear H
    go_wp2_with (first | ((with_reducible refine gate_callee (f := 22) rfl ?_); refine goesL_ (some 56) rfl rfl Tryd.func22 (by kernel_rfl) rfl #[.string t684] rfl am ?_; (with_reducible refine (command_Asked.calls kj6 t684 t686 t687 t688 t689 t690 t691 t692 t693 t694 t695 _ tbk A28.out).mono ?_); rintro e w31 ⟨rfl, hb⟩; refine ⟨_, rfl, ?_⟩; have n0_ := Aside0.mk (nb aa.out hb); have n1_ := Aside0.mk (below_step bw hb); clear aa; clear HB; have aa := n0_; have HB := n1_; clear n0_ n1_; (try clear hb)) | ((with_reducible refine gate_dst (N := 12) rfl ?_); refine box_event ?hg (N := 12) ?hd (cs := #[.int .i64 0, .string (⟨#[]⟩ : ByteArray), .string (⟨#[]⟩ : ByteArray), .int .i64 0, .string (⟨#[]⟩ : ByteArray), .string (⟨#[]⟩ : ByteArray), .int .i64 0, .int .i64 0, .int .i64 0]) (t := 23) ?hr ?_; (case hd => rfl); (case hg => rfl); (case hr => first | (go_simp; done) | (go_simp; rfl)); intro d6 hg w32 hbox hb; have n0_ := Aside0.mk (nb aa.out hb); have n1_ := Aside0.mk (below_step bw hb); have n2_ := Aside0.mk (hbox); have n3_ := Aside0.mk ((g1 hg bw : w.heap.size ≤ d6)); have n4_ := Aside0.mk ((g1 hg bw : w.heap.size ≤ d6)); have n5_ := Aside0.mk ((n1 hg aa.out : ac ≠ d6)); have n6_ := Aside0.mk ((n2 hg aa.out : d6 ≠ ac)); clear aa; clear HB; have aa := n0_; have HB := n1_; have BK696 := n2_; have GW696 := n3_; have GE696 := n4_; have ao := n5_; have NB696_668 := n6_; clear n0_ n1_ n2_ n3_ n4_ n5_ n6_; clear hb hbox hg; have hnb33 := NB696_668.out; have hnc33 := ao.out; obtain ⟨d7, d8, d9, ea, eb, ec, ed, ee, ef, eg, eh, ei, ej, ek, el, em, en, eo⟩ := bx9 BK696.out; obtain ⟨ep, eq, es, et, eu, ev, ew, ex, ey, ez, e0, e1, e2, e3, e4, e5, e6, e7⟩ := bx9 aa.out))
    go_meet
    case rel => exact ⟨_, H', ⟨by have := HJ6.out; first | omega | exact Nat.le_refl _⟩, ⟨by (with_reducible repeat (first | refine blk_drewN ?_ _ | refine blk_drew ?_ | refine blk_alloc ?_ _ | refine blk_far ?_ ao.out _)); exact aa.out⟩, ⟨bw⟩⟩
   case rest =>
    clear HC24
    try clear c1
    try clear c2
    try clear p2
    try clear c3
    try clear c6
    try clear fc
    try clear fd
    try clear fe
    try clear c11
    try clear c12
    try clear c14
    try clear ak
    try clear dh
    try clear c16
    try clear di
    try clear dj
    try clear c17
    try clear dk
    try clear dl
    try clear c20
    try clear c22
    try clear c27
    try clear al
    try clear e8
    try clear c29
    try clear e9
    try clear c30
    try clear fa
    try clear fb
    try clear c33
    try clear au av aw ax ay az ba bb bc bn bo bp bq br bs bu bv bx b9 ca cb cc cd ce cg ch ci ct cu cv cw cx cy cz c0 c5 dn dp dq dr ds dt du dv dw d7 d8 d9 ea eb ec ed ee ef ep eq es et eu ev ew ex ey
    try clear bd be bf bg bh bi bj bl bm b0 b1 b2 b3 b4 b5 b6 b7 b8 cj ck cl cm cn co cp cq cr c7 c8 c9 da db dc dd de df dx dy dz d0 d1 d2 d3 d4 d5 eg eh ei ej ek el em en eo ez e0 e1 e2 e3 e4 e5 e6 e7
    try clear p2
    obtain ⟨kq, HA, fl, aa, HB⟩ := hcut
    cases kq with
    | zero => exact absurd HA.out (by simp [carillonlaw14_CommandBack.j1])
    | succ dg =>
     have H := HA.out
     clear HA
     simp only [carillonlaw14_CommandBack.j1] at H
     replace H := Option.bind_eq_some_iff.mp H
     obtain ⟨⟨t697, t698, t699, t700, t701, t702, t703, t704, t705, t706⟩, A360, H⟩ := H
     replace H : (if t706 = 0 then ((command_Encode.f dg t697 t698 t699 t700 t701 t702 t703 t704 t705).bind fun bt708 => (if bt708.1.toList = a1.toList then (if bt708.2 = 0 then (carillonlaw14_CommandBack.j2 dg a1 t669) else (some false)) else (some false))) else (carillonlaw14_CommandBack.j2 dg a1 t669)) = some r := H
     have A36 := Aside0.mk A360
     clear A360
     have HC37 := Aside0.mk H
     clear H
     go_upto_if 72 with (first | ((with_reducible refine gate_callee (f := 14) rfl ?_); refine goesL_ (some 68) rfl rfl Tryd.func14 (by kernel_rfl) rfl #[.string a1] rfl am ?_; (with_reducible refine (command_Decode.calls dg a1 t697 t698 t699 t700 t701 t702 t703 t704 t705 t706 _ tbk A36.out).mono ?_); rintro e w38 ⟨rfl, hb⟩; refine ⟨_, rfl, ?_⟩; have n0_ := Aside0.mk (nb aa.out hb); have n1_ := Aside0.mk (below_step bw hb); clear aa; clear HB; have aa := n0_; have HB := n1_; clear n0_ n1_; (try clear hb)) | ((with_reducible refine gate_dst (N := 14) rfl ?_); refine box_event ?hg (N := 14) ?hd (cs := #[.int .i64 0, .string (⟨#[]⟩ : ByteArray), .string (⟨#[]⟩ : ByteArray), .int .i64 0, .string (⟨#[]⟩ : ByteArray), .string (⟨#[]⟩ : ByteArray), .int .i64 0, .int .i64 0, .int .i64 0]) (t := 23) ?hr ?_; (case hd => rfl); (case hg => rfl); (case hr => first | (go_simp; done) | (go_simp; rfl)); intro ae hg w39 hbox hb; have n0_ := Aside0.mk (nb aa.out hb); have n1_ := Aside0.mk (below_step bw hb); have n2_ := Aside0.mk (hbox); have n3_ := Aside0.mk ((g1 hg bw : w.heap.size ≤ ae)); have n4_ := Aside0.mk ((g1 hg bw : w.heap.size ≤ ae)); have n5_ := Aside0.mk ((n1 hg aa.out : ac ≠ ae)); have n6_ := Aside0.mk ((n2 hg aa.out : ae ≠ ac)); clear aa; clear HB; have aa := n0_; have HB := n1_; have ab := n2_; have GW707 := n3_; have GE707 := n4_; have af := n5_; have ap := n6_; clear n0_ n1_ n2_ n3_ n4_ n5_ n6_; clear hb hbox hg; have hnb40 := ap.out; have hnc40 := af.out; obtain ⟨hcz41_0, hcz41_1, hcz41_2, hcz41_3, hcz41_4, hcz41_5, hcz41_6, hcz41_7, hcz41_8, hfz41_0, hfz41_1, hfz41_2, hfz41_3, hfz41_4, hfz41_5, hfz41_6, hfz41_7, hfz41_8⟩ := bx9 ab.out))
     (try simp only [Act.put, sl1, sl2, sl3])
     go_cut [] (fun wc => ∃ (kq : Nat), Aside0 (carillonlaw14_CommandBack.j2 kq a1 t669 = some r) ∧ Aside0 (kq ≤ dg) ∧ Aside0 (wc.heap[ac]? = some (.cells #[.int .i64 a0_0, .string a0_1, .string a0_2, .int .i64 a0_3, .string a0_4, .string a0_5, .int .i64 a0_6, .int .i64 a0_7, .int .i64 a0_8] 23 (0, 0))) ∧ Aside0 (wc.heap[ae]? = some (.cells #[.int .i64 t697, .string t698, .string t699, .int .i64 t700, .string t701, .string t702, .int .i64 t703, .int .i64 t704, .int .i64 t705] 23 (0, 0))) ∧ Aside0 (Below w.heap.size w wc))
     case first =>
      have H := HC37.out
      clear HC37
      by_cases c42 : t706 = 0; rotate_left
      ·rw [if_neg c42] at H
       have aq : (t706 == 0) = false := beq_eq_false_iff_ne.mpr c42
       have fg : (t706 != 0) = true := bne_iff_ne.mpr c42
       (first | rw [aq] | (simp only [i64_w, i32_w]; rw [aq]) | skip)
       have H' := Aside0.mk H
       clear H
       go_wp2
       go_meet
       case rel => exact ⟨_, H', ⟨by have := HJ6.out; have := fl.out; first | omega | exact Nat.le_refl _⟩, ⟨by (with_reducible repeat (first | refine blk_drewN ?_ _ | refine blk_drew ?_ | refine blk_alloc ?_ _ | refine blk_far ?_ af.out _)); exact aa.out⟩, ⟨by (with_reducible repeat (first | refine blk_drewN ?_ _ | refine blk_drew ?_ | refine blk_alloc ?_ _)); refine blk_put (cs := #[.int .i64 t697, .string t698, .string t699, .int .i64 t700, .string t701, .string t702, .int .i64 t703, .int .i64 t704, .int .i64 0]) ?_ 8 _ rfl; (with_reducible repeat (first | refine blk_drewN ?_ _ | refine blk_drew ?_ | refine blk_alloc ?_ _)); refine blk_put (cs := #[.int .i64 t697, .string t698, .string t699, .int .i64 t700, .string t701, .string t702, .int .i64 t703, .int .i64 0, .int .i64 0]) ?_ 7 _ rfl; (with_reducible repeat (first | refine blk_drewN ?_ _ | refine blk_drew ?_ | refine blk_alloc ?_ _)); refine blk_put (cs := #[.int .i64 t697, .string t698, .string t699, .int .i64 t700, .string t701, .string t702, .int .i64 0, .int .i64 0, .int .i64 0]) ?_ 6 _ rfl; (with_reducible repeat (first | refine blk_drewN ?_ _ | refine blk_drew ?_ | refine blk_alloc ?_ _)); refine blk_put (cs := #[.int .i64 t697, .string t698, .string t699, .int .i64 t700, .string t701, .string (⟨#[]⟩ : ByteArray), .int .i64 0, .int .i64 0, .int .i64 0]) ?_ 5 _ rfl; (with_reducible repeat (first | refine blk_drewN ?_ _ | refine blk_drew ?_ | refine blk_alloc ?_ _)); refine blk_put (cs := #[.int .i64 t697, .string t698, .string t699, .int .i64 t700, .string (⟨#[]⟩ : ByteArray), .string (⟨#[]⟩ : ByteArray), .int .i64 0, .int .i64 0, .int .i64 0]) ?_ 4 _ rfl; (with_reducible repeat (first | refine blk_drewN ?_ _ | refine blk_drew ?_ | refine blk_alloc ?_ _)); refine blk_put (cs := #[.int .i64 t697, .string t698, .string t699, .int .i64 0, .string (⟨#[]⟩ : ByteArray), .string (⟨#[]⟩ : ByteArray), .int .i64 0, .int .i64 0, .int .i64 0]) ?_ 3 _ rfl; (with_reducible repeat (first | refine blk_drewN ?_ _ | refine blk_drew ?_ | refine blk_alloc ?_ _)); refine blk_put (cs := #[.int .i64 t697, .string t698, .string (⟨#[]⟩ : ByteArray), .int .i64 0, .string (⟨#[]⟩ : ByteArray), .string (⟨#[]⟩ : ByteArray), .int .i64 0, .int .i64 0, .int .i64 0]) ?_ 2 _ rfl; (with_reducible repeat (first | refine blk_drewN ?_ _ | refine blk_drew ?_ | refine blk_alloc ?_ _)); refine blk_put (cs := #[.int .i64 t697, .string (⟨#[]⟩ : ByteArray), .string (⟨#[]⟩ : ByteArray), .int .i64 0, .string (⟨#[]⟩ : ByteArray), .string (⟨#[]⟩ : ByteArray), .int .i64 0, .int .i64 0, .int .i64 0]) ?_ 1 _ rfl; (with_reducible repeat (first | refine blk_drewN ?_ _ | refine blk_drew ?_ | refine blk_alloc ?_ _)); refine blk_put (cs := #[.int .i64 0, .string (⟨#[]⟩ : ByteArray), .string (⟨#[]⟩ : ByteArray), .int .i64 0, .string (⟨#[]⟩ : ByteArray), .string (⟨#[]⟩ : ByteArray), .int .i64 0, .int .i64 0, .int .i64 0]) ?_ 0 _ rfl; (with_reducible repeat (first | refine blk_drewN ?_ _ | refine blk_drew ?_ | refine blk_alloc ?_ _)); exact ab.out⟩, ⟨bw⟩⟩
      rw [if_pos c42] at H
      have aq : (t706 == 0) = true := beq_iff_eq.mpr c42
      have fg : (t706 != 0) = false := bne_eq_false_iff_eq.mpr c42
      clear c42
      (first | rw [aq] | (simp only [i64_w, i32_w]; rw [aq]) | skip)
      replace H := Option.bind_eq_some_iff.mp H
      obtain ⟨⟨t708, t709⟩, A430, H⟩ := H
      replace H : (if t708.toList = a1.toList then (if t709 = 0 then (carillonlaw14_CommandBack.j2 dg a1 t669) else (some false)) else (some false)) = some r := H
      have A43 := Aside0.mk A430
      clear A430
      by_cases c44 : t708.toList = a1.toList; rotate_left
      ·rw [if_neg c44] at H
       have fh : (t708.toList == a1.toList) = false := beq_eq_false_iff_ne.mpr c44
       have fi : (t708.toList != a1.toList) = true := bne_iff_ne.mpr c44
       exact absurd ((Option.some.inj H).trans hr_.out) (by decide)
      rw [if_pos c44] at H
      have fh : (t708.toList == a1.toList) = true := beq_iff_eq.mpr c44
      have fi : (t708.toList != a1.toList) = false := bne_eq_false_iff_eq.mpr c44
      clear c44
      by_cases c45 : t709 = 0; rotate_left
      ·rw [if_neg c45] at H
       have fj : (t709 == 0) = false := beq_eq_false_iff_ne.mpr c45
       have fk : (t709 != 0) = true := bne_iff_ne.mpr c45
       exact absurd ((Option.some.inj H).trans hr_.out) (by decide)
      rw [if_pos c45] at H
      have fj : (t709 == 0) = true := beq_iff_eq.mpr c45
      have fk : (t709 != 0) = false := bne_eq_false_iff_eq.mpr c45
      clear c45
      have H' := Aside0.mk H
      clear H
      have hnb46 := ap.out
      have hnc46 := af.out
      obtain ⟨hcz47_0, hcz47_1, hcz47_2, hcz47_3, hcz47_4, hcz47_5, hcz47_6, hcz47_7, hcz47_8, hfz47_0, hfz47_1, hfz47_2, hfz47_3, hfz47_4, hfz47_5, hfz47_6, hfz47_7, hfz47_8⟩ := bx9 ab.out
      go_wp2_with (first | ((with_reducible refine gate_callee (f := 12) rfl ?_); refine goesL_ (some 75) rfl rfl Tryd.func12 (by kernel_rfl) rfl #[.agg #[.int .i64 t697, .string t698, .string t699, .int .i64 t700, .string t701, .string t702, .int .i64 t703, .int .i64 t704, .int .i64 t705]] rfl am ?_; (with_reducible refine (command_Encode.calls dg t697 t698 t699 t700 t701 t702 t703 t704 t705 t708 t709 _ tbk A43.out).mono ?_); rintro e w48 ⟨rfl, hb⟩; refine ⟨_, rfl, ?_⟩; have n0_ := Aside0.mk (blk_below (g := ac) (o := .cells #[.int .i64 a0_0, .string a0_1, .string a0_2, .int .i64 a0_3, .string a0_4, .string a0_5, .int .i64 a0_6, .int .i64 a0_7, .int .i64 a0_8] 23 (0, 0)) (by (with_reducible repeat (first | refine blk_drewN ?_ _ | refine blk_drew ?_ | refine blk_alloc ?_ _ | refine blk_far ?_ af.out _)); exact aa.out) hb); have n1_ := Aside0.mk (blk_below (g := ae) (o := .cells #[.int .i64 t697, .string t698, .string t699, .int .i64 t700, .string t701, .string t702, .int .i64 t703, .int .i64 t704, .int .i64 t705] 23 (0, 0)) (by (with_reducible repeat (first | refine blk_drewN ?_ _ | refine blk_drew ?_ | refine blk_alloc ?_ _)); refine blk_put (cs := #[.int .i64 t697, .string t698, .string t699, .int .i64 t700, .string t701, .string t702, .int .i64 t703, .int .i64 t704, .int .i64 0]) ?_ 8 _ rfl; (with_reducible repeat (first | refine blk_drewN ?_ _ | refine blk_drew ?_ | refine blk_alloc ?_ _)); refine blk_put (cs := #[.int .i64 t697, .string t698, .string t699, .int .i64 t700, .string t701, .string t702, .int .i64 t703, .int .i64 0, .int .i64 0]) ?_ 7 _ rfl; (with_reducible repeat (first | refine blk_drewN ?_ _ | refine blk_drew ?_ | refine blk_alloc ?_ _)); refine blk_put (cs := #[.int .i64 t697, .string t698, .string t699, .int .i64 t700, .string t701, .string t702, .int .i64 0, .int .i64 0, .int .i64 0]) ?_ 6 _ rfl; (with_reducible repeat (first | refine blk_drewN ?_ _ | refine blk_drew ?_ | refine blk_alloc ?_ _)); refine blk_put (cs := #[.int .i64 t697, .string t698, .string t699, .int .i64 t700, .string t701, .string (⟨#[]⟩ : ByteArray), .int .i64 0, .int .i64 0, .int .i64 0]) ?_ 5 _ rfl; (with_reducible repeat (first | refine blk_drewN ?_ _ | refine blk_drew ?_ | refine blk_alloc ?_ _)); refine blk_put (cs := #[.int .i64 t697, .string t698, .string t699, .int .i64 t700, .string (⟨#[]⟩ : ByteArray), .string (⟨#[]⟩ : ByteArray), .int .i64 0, .int .i64 0, .int .i64 0]) ?_ 4 _ rfl; (with_reducible repeat (first | refine blk_drewN ?_ _ | refine blk_drew ?_ | refine blk_alloc ?_ _)); refine blk_put (cs := #[.int .i64 t697, .string t698, .string t699, .int .i64 0, .string (⟨#[]⟩ : ByteArray), .string (⟨#[]⟩ : ByteArray), .int .i64 0, .int .i64 0, .int .i64 0]) ?_ 3 _ rfl; (with_reducible repeat (first | refine blk_drewN ?_ _ | refine blk_drew ?_ | refine blk_alloc ?_ _)); refine blk_put (cs := #[.int .i64 t697, .string t698, .string (⟨#[]⟩ : ByteArray), .int .i64 0, .string (⟨#[]⟩ : ByteArray), .string (⟨#[]⟩ : ByteArray), .int .i64 0, .int .i64 0, .int .i64 0]) ?_ 2 _ rfl; (with_reducible repeat (first | refine blk_drewN ?_ _ | refine blk_drew ?_ | refine blk_alloc ?_ _)); refine blk_put (cs := #[.int .i64 t697, .string (⟨#[]⟩ : ByteArray), .string (⟨#[]⟩ : ByteArray), .int .i64 0, .string (⟨#[]⟩ : ByteArray), .string (⟨#[]⟩ : ByteArray), .int .i64 0, .int .i64 0, .int .i64 0]) ?_ 1 _ rfl; (with_reducible repeat (first | refine blk_drewN ?_ _ | refine blk_drew ?_ | refine blk_alloc ?_ _)); refine blk_put (cs := #[.int .i64 0, .string (⟨#[]⟩ : ByteArray), .string (⟨#[]⟩ : ByteArray), .int .i64 0, .string (⟨#[]⟩ : ByteArray), .string (⟨#[]⟩ : ByteArray), .int .i64 0, .int .i64 0, .int .i64 0]) ?_ 0 _ rfl; (with_reducible repeat (first | refine blk_drewN ?_ _ | refine blk_drew ?_ | refine blk_alloc ?_ _)); exact ab.out) hb); have n2_ := Aside0.mk (below_step bw hb); clear aa; clear ab; clear HB; have aa := n0_; have ab := n1_; have HB := n2_; clear n0_ n1_ n2_; (try clear hb)))
      go_meet
      case rel => exact ⟨_, H', ⟨by have := HJ6.out; have := fl.out; first | omega | exact Nat.le_refl _⟩, ⟨by (with_reducible repeat (first | refine blk_drewN ?_ _ | refine blk_drew ?_ | refine blk_alloc ?_ _)); exact aa.out⟩, ⟨by (with_reducible repeat (first | refine blk_drewN ?_ _ | refine blk_drew ?_ | refine blk_alloc ?_ _)); exact ab.out⟩, ⟨bw⟩⟩
     case rest =>
      clear HC37
      try clear c1
      try clear c2
      try clear p2
      try clear c3
      try clear c4
      try clear c6
      try clear fc
      try clear fd
      try clear fe
      try clear c11
      try clear c12
      try clear c14
      try clear ak
      try clear dh
      try clear c16
      try clear di
      try clear dj
      try clear c17
      try clear dk
      try clear dl
      try clear c20
      try clear c22
      try clear c27
      try clear al
      try clear e8
      try clear c29
      try clear e9
      try clear c30
      try clear fa
      try clear fb
      try clear c33
      try clear c40
      try clear c42
      try clear aq
      try clear fg
      try clear c44
      try clear fh
      try clear fi
      try clear c45
      try clear fj
      try clear fk
      try clear c46
      try clear au av aw ax ay az ba bb bc bn bo bp bq br bs bu bv bx b9 ca cb cc cd ce cg ch ci ct cu cv cw cx cy cz c0 c5 dn dp dq dr ds dt du dv dw d7 d8 d9 ea eb ec ed ee ef ep eq es et eu ev ew ex ey hcz41_0 hcz41_1 hcz41_2 hcz41_3 hcz41_4 hcz41_5 hcz41_6 hcz41_7 hcz41_8 hcz47_0 hcz47_1 hcz47_2 hcz47_3 hcz47_4 hcz47_5 hcz47_6 hcz47_7 hcz47_8
      try clear bd be bf bg bh bi bj bl bm b0 b1 b2 b3 b4 b5 b6 b7 b8 cj ck cl cm cn co cp cq cr c7 c8 c9 da db dc dd de df dx dy dz d0 d1 d2 d3 d4 d5 eg eh ei ej ek el em en eo ez e0 e1 e2 e3 e4 e5 e6 e7 hfz41_0 hfz41_1 hfz41_2 hfz41_3 hfz41_4 hfz41_5 hfz41_6 hfz41_7 hfz41_8 hfz47_0 hfz47_1 hfz47_2 hfz47_3 hfz47_4 hfz47_5 hfz47_6 hfz47_7 hfz47_8
      try clear p2
      obtain ⟨kq, HA, HJ36, aa, ab, HB⟩ := hcut
      cases kq with
      | zero => exact absurd HA.out (by simp [carillonlaw14_CommandBack.j2])
      | succ ff =>
       have H := HA.out
       clear HA
       simp only [carillonlaw14_CommandBack.j2] at H
       replace H := Option.bind_eq_some_iff.mp H
       obtain ⟨⟨t710, t711, t712, t713, t714, t715, t716, t717, t718, t719⟩, A490, H⟩ := H
       replace H : (if t719 = 0 then ((command_Request.f ff t710 t711 t712 t713 t714 t715 t716 t717 t718).bind fun bt721 => (if t669 = true then (if bt721.1.toList = a1.toList then (some (bt721.2 == 0)) else (some false)) else (some false))) else (if t669 = true then (some (t710 == 0 && (t711.toList == ([] : List UInt8) && (t712.toList == ([] : List UInt8) && (t713 == 0 && (t714.toList == ([] : List UInt8) && (t715.toList == ([] : List UInt8) && (t716 == 0 && (t717 == 0 && (t718 == 0)))))))))) else (some false))) = some r := H
       have A49 := Aside0.mk A490
       clear A490
       by_cases c50 : t719 = 0; rotate_left
       ·rw [if_neg c50] at H
        have c50b0 : (t719 == 0) = false := beq_eq_false_iff_ne.mpr c50
        have c50b1 : (t719 != 0) = true := bne_iff_ne.mpr c50
        by_cases c60 : t669 = true; rotate_left
        ·replace c60 := Bool.eq_false_iff.mpr c60
         subst c60
         have H1 : (some false) = some r := by rw [if_neg (show ¬ (false = true) by decide)] at H; exact H
         clear H
         have H := H1
         clear H1
         exact absurd ((Option.some.inj H).trans hr_.out) (by decide)
        subst c60
        have H1 : (some (t710 == 0 && (t711.toList == ([] : List UInt8) && (t712.toList == ([] : List UInt8) && (t713 == 0 && (t714.toList == ([] : List UInt8) && (t715.toList == ([] : List UInt8) && (t716 == 0 && (t717 == 0 && (t718 == 0)))))))))) = some r := by rw [if_pos rfl] at H; exact H
        clear H
        have H := H1
        clear H1
        obtain rfl := Option.some.inj H
        go_wp2_with (first | ((with_reducible refine gate_callee (f := 22) rfl ?_); refine goesL_ (some 87) rfl rfl Tryd.func22 (by kernel_rfl) rfl #[.string a1] rfl am ?_; (with_reducible refine (command_Asked.calls ff a1 t710 t711 t712 t713 t714 t715 t716 t717 t718 t719 _ tbk A49.out).mono ?_); rintro e w61 ⟨rfl, hb⟩; refine ⟨_, rfl, ?_⟩; have n0_ := Aside0.mk (nb aa.out hb); have n1_ := Aside0.mk (nb ab.out hb); have n2_ := Aside0.mk (below_step bw hb); clear aa; clear ab; clear HB; have aa := n0_; have ab := n1_; have HB := n2_; clear n0_ n1_ n2_; (try clear hb)) | ((with_reducible refine gate_dst (N := 18) rfl ?_); refine box_event ?hg (N := 18) ?hd (cs := #[.int .i64 0, .string (⟨#[]⟩ : ByteArray), .string (⟨#[]⟩ : ByteArray), .int .i64 0, .string (⟨#[]⟩ : ByteArray), .string (⟨#[]⟩ : ByteArray), .int .i64 0, .int .i64 0, .int .i64 0]) (t := 23) ?hr ?_; (case hd => rfl); (case hg => rfl); (case hr => first | (go_simp; done) | (go_simp; rfl)); intro ad hg w62 hbox hb; have n0_ := Aside0.mk (nb aa.out hb); have n1_ := Aside0.mk (nb ab.out hb); have n2_ := Aside0.mk (below_step bw hb); have n3_ := Aside0.mk (hbox); have n4_ := Aside0.mk ((g1 hg bw : w.heap.size ≤ ad)); have n5_ := Aside0.mk ((g1 hg bw : w.heap.size ≤ ad)); have n6_ := Aside0.mk ((n1 hg aa.out : ac ≠ ad)); have n7_ := Aside0.mk ((n2 hg aa.out : ad ≠ ac)); have n8_ := Aside0.mk ((n1 hg ab.out : ae ≠ ad)); have n9_ := Aside0.mk ((n2 hg ab.out : ad ≠ ae)); clear aa; clear ab; clear HB; have aa := n0_; have ab := n1_; have HB := n2_; have ar := n3_; have GW720 := n4_; have GE720 := n5_; have ag := n6_; have ai := n7_; have ah := n8_; have aj := n9_; clear n0_ n1_ n2_ n3_ n4_ n5_ n6_ n7_ n8_ n9_; clear hb hbox hg; have hnb63 := ai.out; have hnc63 := ag.out; have hnb64 := aj.out; have hnc64 := ah.out; obtain ⟨hcz65_0, hcz65_1, hcz65_2, hcz65_3, hcz65_4, hcz65_5, hcz65_6, hcz65_7, hcz65_8, hfz65_0, hfz65_1, hfz65_2, hfz65_3, hfz65_4, hfz65_5, hfz65_6, hfz65_7, hfz65_8⟩ := bx9 ar.out))
        go_ret
        exact ⟨er, bw⟩
       rw [if_pos c50] at H
       have c50b0 : (t719 == 0) = true := beq_iff_eq.mpr c50
       have c50b1 : (t719 != 0) = false := bne_eq_false_iff_eq.mpr c50
       clear c50
       replace H := Option.bind_eq_some_iff.mp H
       obtain ⟨⟨t721, t722⟩, A510, H⟩ := H
       replace H : (if t669 = true then (if t721.toList = a1.toList then (some (t722 == 0)) else (some false)) else (some false)) = some r := H
       have A51 := Aside0.mk A510
       clear A510
       by_cases c52 : t669 = true; rotate_left
       ·replace c52 := Bool.eq_false_iff.mpr c52
        subst c52
        have H1 : (some false) = some r := by rw [if_neg (show ¬ (false = true) by decide)] at H; exact H
        clear H
        have H := H1
        clear H1
        exact absurd ((Option.some.inj H).trans hr_.out) (by decide)
       subst c52
       have H1 : (if t721.toList = a1.toList then (some (t722 == 0)) else (some false)) = some r := by rw [if_pos rfl] at H; exact H
       clear H
       have H := H1
       clear H1
       by_cases c53 : t721.toList = a1.toList; rotate_left
       ·rw [if_neg c53] at H
        have c53b0 : (t721.toList == a1.toList) = false := beq_eq_false_iff_ne.mpr c53
        have c53b1 : (t721.toList != a1.toList) = true := bne_iff_ne.mpr c53
        exact absurd ((Option.some.inj H).trans hr_.out) (by decide)
       rw [if_pos c53] at H
       have c53b0 : (t721.toList == a1.toList) = true := beq_iff_eq.mpr c53
       have c53b1 : (t721.toList != a1.toList) = false := bne_eq_false_iff_eq.mpr c53
       clear c53
       obtain rfl := Option.some.inj H
       go_wp2_with (first | ((with_reducible refine gate_callee (f := 22) rfl ?_); refine goesL_ (some 87) rfl rfl Tryd.func22 (by kernel_rfl) rfl #[.string a1] rfl am ?_; (with_reducible refine (command_Asked.calls ff a1 t710 t711 t712 t713 t714 t715 t716 t717 t718 t719 _ tbk A49.out).mono ?_); rintro e w54 ⟨rfl, hb⟩; refine ⟨_, rfl, ?_⟩; have n0_ := Aside0.mk (nb aa.out hb); have n1_ := Aside0.mk (nb ab.out hb); have n2_ := Aside0.mk (below_step bw hb); clear aa; clear ab; clear HB; have aa := n0_; have ab := n1_; have HB := n2_; clear n0_ n1_ n2_; (try clear hb)) | ((with_reducible refine gate_dst (N := 18) rfl ?_); refine box_event ?hg (N := 18) ?hd (cs := #[.int .i64 0, .string (⟨#[]⟩ : ByteArray), .string (⟨#[]⟩ : ByteArray), .int .i64 0, .string (⟨#[]⟩ : ByteArray), .string (⟨#[]⟩ : ByteArray), .int .i64 0, .int .i64 0, .int .i64 0]) (t := 23) ?hr ?_; (case hd => rfl); (case hg => rfl); (case hr => first | (go_simp; done) | (go_simp; rfl)); intro ad hg w55 hbox hb; have n0_ := Aside0.mk (nb aa.out hb); have n1_ := Aside0.mk (nb ab.out hb); have n2_ := Aside0.mk (below_step bw hb); have n3_ := Aside0.mk (hbox); have n4_ := Aside0.mk ((g1 hg bw : w.heap.size ≤ ad)); have n5_ := Aside0.mk ((g1 hg bw : w.heap.size ≤ ad)); have n6_ := Aside0.mk ((n1 hg aa.out : ac ≠ ad)); have n7_ := Aside0.mk ((n2 hg aa.out : ad ≠ ac)); have n8_ := Aside0.mk ((n1 hg ab.out : ae ≠ ad)); have n9_ := Aside0.mk ((n2 hg ab.out : ad ≠ ae)); clear aa; clear ab; clear HB; have aa := n0_; have ab := n1_; have HB := n2_; have ar := n3_; have GW720 := n4_; have GE720 := n5_; have ag := n6_; have ai := n7_; have ah := n8_; have aj := n9_; clear n0_ n1_ n2_ n3_ n4_ n5_ n6_ n7_ n8_ n9_; clear hb hbox hg; have hnb56 := ai.out; have hnc56 := ag.out; have hnb57 := aj.out; have hnc57 := ah.out; obtain ⟨hcz58_0, hcz58_1, hcz58_2, hcz58_3, hcz58_4, hcz58_5, hcz58_6, hcz58_7, hcz58_8, hfz58_0, hfz58_1, hfz58_2, hfz58_3, hfz58_4, hfz58_5, hfz58_6, hfz58_7, hfz58_8⟩ := bx9 ar.out) | ((with_reducible refine gate_callee (f := 20) rfl ?_); refine goesL_ (some 100) rfl rfl Tryd.func20 (by kernel_rfl) rfl #[.agg #[.int .i64 t710, .string t711, .string t712, .int .i64 t713, .string t714, .string t715, .int .i64 t716, .int .i64 t717, .int .i64 t718]] rfl am ?_; (with_reducible refine (command_Request.calls ff t710 t711 t712 t713 t714 t715 t716 t717 t718 t721 t722 _ tbk A51.out).mono ?_); rintro e w59 ⟨rfl, hb⟩; refine ⟨_, rfl, ?_⟩; have n0_ := Aside0.mk (blk_below (g := ac) (o := .cells #[.int .i64 a0_0, .string a0_1, .string a0_2, .int .i64 a0_3, .string a0_4, .string a0_5, .int .i64 a0_6, .int .i64 a0_7, .int .i64 a0_8] 23 (0, 0)) (by (with_reducible repeat (first | refine blk_drewN ?_ _ | refine blk_drew ?_ | refine blk_alloc ?_ _ | refine blk_far ?_ ag.out _)); exact aa.out) hb); have n1_ := Aside0.mk (blk_below (g := ae) (o := .cells #[.int .i64 t697, .string t698, .string t699, .int .i64 t700, .string t701, .string t702, .int .i64 t703, .int .i64 t704, .int .i64 t705] 23 (0, 0)) (by (with_reducible repeat (first | refine blk_drewN ?_ _ | refine blk_drew ?_ | refine blk_alloc ?_ _ | refine blk_far ?_ ah.out _)); exact ab.out) hb); have n2_ := Aside0.mk (blk_below (g := ad) (o := .cells #[.int .i64 t710, .string t711, .string t712, .int .i64 t713, .string t714, .string t715, .int .i64 t716, .int .i64 t717, .int .i64 t718] 23 (0, 0)) (by (with_reducible repeat (first | refine blk_drewN ?_ _ | refine blk_drew ?_ | refine blk_alloc ?_ _)); refine blk_put (cs := #[.int .i64 t710, .string t711, .string t712, .int .i64 t713, .string t714, .string t715, .int .i64 t716, .int .i64 t717, .int .i64 0]) ?_ 8 _ rfl; (with_reducible repeat (first | refine blk_drewN ?_ _ | refine blk_drew ?_ | refine blk_alloc ?_ _)); refine blk_put (cs := #[.int .i64 t710, .string t711, .string t712, .int .i64 t713, .string t714, .string t715, .int .i64 t716, .int .i64 0, .int .i64 0]) ?_ 7 _ rfl; (with_reducible repeat (first | refine blk_drewN ?_ _ | refine blk_drew ?_ | refine blk_alloc ?_ _)); refine blk_put (cs := #[.int .i64 t710, .string t711, .string t712, .int .i64 t713, .string t714, .string t715, .int .i64 0, .int .i64 0, .int .i64 0]) ?_ 6 _ rfl; (with_reducible repeat (first | refine blk_drewN ?_ _ | refine blk_drew ?_ | refine blk_alloc ?_ _)); refine blk_put (cs := #[.int .i64 t710, .string t711, .string t712, .int .i64 t713, .string t714, .string (⟨#[]⟩ : ByteArray), .int .i64 0, .int .i64 0, .int .i64 0]) ?_ 5 _ rfl; (with_reducible repeat (first | refine blk_drewN ?_ _ | refine blk_drew ?_ | refine blk_alloc ?_ _)); refine blk_put (cs := #[.int .i64 t710, .string t711, .string t712, .int .i64 t713, .string (⟨#[]⟩ : ByteArray), .string (⟨#[]⟩ : ByteArray), .int .i64 0, .int .i64 0, .int .i64 0]) ?_ 4 _ rfl; (with_reducible repeat (first | refine blk_drewN ?_ _ | refine blk_drew ?_ | refine blk_alloc ?_ _)); refine blk_put (cs := #[.int .i64 t710, .string t711, .string t712, .int .i64 0, .string (⟨#[]⟩ : ByteArray), .string (⟨#[]⟩ : ByteArray), .int .i64 0, .int .i64 0, .int .i64 0]) ?_ 3 _ rfl; (with_reducible repeat (first | refine blk_drewN ?_ _ | refine blk_drew ?_ | refine blk_alloc ?_ _)); refine blk_put (cs := #[.int .i64 t710, .string t711, .string (⟨#[]⟩ : ByteArray), .int .i64 0, .string (⟨#[]⟩ : ByteArray), .string (⟨#[]⟩ : ByteArray), .int .i64 0, .int .i64 0, .int .i64 0]) ?_ 2 _ rfl; (with_reducible repeat (first | refine blk_drewN ?_ _ | refine blk_drew ?_ | refine blk_alloc ?_ _)); refine blk_put (cs := #[.int .i64 t710, .string (⟨#[]⟩ : ByteArray), .string (⟨#[]⟩ : ByteArray), .int .i64 0, .string (⟨#[]⟩ : ByteArray), .string (⟨#[]⟩ : ByteArray), .int .i64 0, .int .i64 0, .int .i64 0]) ?_ 1 _ rfl; (with_reducible repeat (first | refine blk_drewN ?_ _ | refine blk_drew ?_ | refine blk_alloc ?_ _)); refine blk_put (cs := #[.int .i64 0, .string (⟨#[]⟩ : ByteArray), .string (⟨#[]⟩ : ByteArray), .int .i64 0, .string (⟨#[]⟩ : ByteArray), .string (⟨#[]⟩ : ByteArray), .int .i64 0, .int .i64 0, .int .i64 0]) ?_ 0 _ rfl; (with_reducible repeat (first | refine blk_drewN ?_ _ | refine blk_drew ?_ | refine blk_alloc ?_ _)); exact ar.out) hb); have n3_ := Aside0.mk (below_step bw hb); clear aa; clear ab; clear ar; clear HB; have aa := n0_; have ab := n1_; have ar := n2_; have HB := n3_; clear n0_ n1_ n2_ n3_; (try clear hb)))
       go_ret
       exact ⟨er, bw⟩

end Go.Proofs.YtpgiagdpepkooaaDoor.P
