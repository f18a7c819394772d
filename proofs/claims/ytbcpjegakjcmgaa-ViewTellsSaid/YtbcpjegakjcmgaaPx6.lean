-- Printed by this session's program wip/xp.py (a turned copy of the kit's printer): functions, their contracts.
import Derived.Test.YtbcpjegakjcmgaaPx0
import Derived.Test.YtbcpjegakjcmgaaPx1
import Derived.Test.YtbcpjegakjcmgaaPx2
import Derived.Test.YtbcpjegakjcmgaaPx4
import Derived.Test.YtbcpjegakjcmgaaPx5
namespace Go.Proofs.Ytbcpjegakjcmgaa.P
open Go.RowKit Go.Proofs.YtbcpjegakjcmgaaW.PrintWords Go.Proofs.YtbcpjegakjcmgaaW.PrintLast Go.Proofs.YtbcpjegakjcmgaaW.PrintMore
attribute [local go_sem] max2_int min2_int max_two min_two max_three min_three max_four min_four   -- for this text's walks alone
set_option linter.unusedVariables false
set_option linter.unusedSimpArgs false

attribute [local go_sem high] eqA26
/-! ### carillonlaw12_ViewTells: function 3 -/
def carillonlaw12_ViewTells.f (k : Nat) (a0_0 : Int) (l0_1 : List (S26)) (a1_0 : Int) (l1_1 : List (S26)) (a2_0 : Int) (a2_1 : Int) : Option (Bool) := (carillonlaw12_examples.f).bind fun t195 => ((view_First.f k a0_0 l0_1).bind fun bt196 => ((carillonref12_Right.f k a0_0 l0_1).bind fun t200 => (if t200 = true then (if bt196.2.2 = 0 then (if 0 < (l0_1.length : Int) then (if (!(bt196.1 == ((rd_T26 l0_1 0).f0)) || (!(bt196.2.1 == ((rd_T26 l0_1 0).f1)))) = true then (some false) else (if t195 = true then ((view_RightMember.f a2_0 a2_1).bind fun t202 => ((carillonref12_RightMember.f a2_0 a2_1).bind fun t203 => (if (t202 == t203) = true then ((view_Right.f k a0_0 l0_1).bind fun t204 => (if (t204 == t200) = true then ((view_Majority.f a0_0 l0_1).bind fun t205 => ((carillonref12_Majority.f a0_0 l0_1).bind fun t206 => (if t205 = t206 then ((view_Has.f k a0_0 l0_1 a2_0 a2_1).bind fun t207 => ((carillonref12_Has.f k a0_0 l0_1 a2_0 a2_1).bind fun t208 => (if (t207 == t208) = true then ((view_Common.f a0_0 l0_1 a1_0 l1_1).bind fun t209 => ((carillonref12_Common.f k a0_0 l0_1 a1_0 l1_1).bind fun t210 => (some (t209 == t210)))) else (some false)))) else (some false)))) else (some false))) else (some false)))) else (some false))) else (none)) else (some false)) else (if bt196.2.2 = 1 then (if (!(bt196.1 == 0) || (!(bt196.2.1 == 0))) = true then (some false) else (if t195 = true then ((view_RightMember.f a2_0 a2_1).bind fun t211 => ((carillonref12_RightMember.f a2_0 a2_1).bind fun t212 => (if (t211 == t212) = true then ((view_Right.f k a0_0 l0_1).bind fun t213 => (if (t213 == t200) = true then ((view_Majority.f a0_0 l0_1).bind fun t214 => ((carillonref12_Majority.f a0_0 l0_1).bind fun t215 => (if t214 = t215 then ((view_Has.f k a0_0 l0_1 a2_0 a2_1).bind fun t216 => ((carillonref12_Has.f k a0_0 l0_1 a2_0 a2_1).bind fun t217 => (if (t216 == t217) = true then ((view_Common.f a0_0 l0_1 a1_0 l1_1).bind fun t218 => ((carillonref12_Common.f k a0_0 l0_1 a1_0 l1_1).bind fun t219 => (some (t218 == t219)))) else (some false)))) else (some false)))) else (some false))) else (some false)))) else (some false))) else (some false)))))
theorem carillonlaw12_ViewTells.mono : ∀ a0 a1 a2 a3 a4 a5 k, LeO (carillonlaw12_ViewTells.f k a0 a1 a2 a3 a4 a5) (carillonlaw12_ViewTells.f (k + 1) a0 a1 a2 a3 a4 a5) := by
 intro a0 a1 a2 a3 a4 a5 k
 unfold carillonlaw12_ViewTells.f
 repeat' first
   | (with_reducible exact carillonref12_Common.mono _ _ _ _ _)
   | (with_reducible exact carillonref12_Has.mono _ _ _ _ _)
   | (with_reducible exact carillonref12_Right.mono _ _ _)
   | (with_reducible exact view_First.mono _ _ _)
   | (with_reducible exact view_Has.mono _ _ _ _ _)
   | (with_reducible exact view_Right.mono _ _ _)
   | (with_reducible exact LeO.refl _)
   | (with_reducible exact LeO.none _)
   | (with_reducible refine LeO.ite ?_ ?_)
   | (with_reducible refine LeO.bind ?_ (fun _ => ?_))
   | exact carillonref12_Common.mono _ _ _ _ _
   | exact carillonref12_Has.mono _ _ _ _ _
   | exact carillonref12_Right.mono _ _ _
   | exact view_First.mono _ _ _
   | exact view_Has.mono _ _ _ _ _
   | exact view_Right.mono _ _ _
   | exact LeO.none _
   | refine LeO.ite ?_ ?_
   | refine LeO.bind ?_ (fun _ => ?_)
def carillonlaw12_ViewTells.T4 : Bool × List (List Nat × List Nat) := (true, [([], []), ([0], [0]), ([1], [1]), ([2, 1], [1, 2]), ([3, 1, 1], [1, 3]), ([4], [4]), ([4], [4]), ([6, 4], [4, 6]), ([7, 4], [4, 7]), ([8, 4], [4, 8]), ([5, 9, 4], [4, 5, 9]), ([4, 10, 1], [1, 4, 10]), ([1, 11], [1, 11]), ([12, 4], [12]), ([13], [13]), ([14, 13], [13, 14]), ([15, 13, 13], [13, 15]), ([16], [16]), ([17, 16], [16, 17]), ([18, 16, 16], [16, 18]), ([19], [19]), ([19], [19]), ([20, 21, 19], [19, 20, 21]), ([19, 22, 16], [16, 19, 22]), ([16, 23, 13], [13, 16, 23]), ([13, 24], [13, 24])])
def carillonlaw12_ViewTells.B4 : List Nat := [0, 1, 3, 7, 15, 31, 31, 95, 223, 479, 1023, 2047, 4095, 8191, 16383, 32767, 65535, 131071, 262143, 524287, 1048575, 1048575, 4194303, 8388607, 16777215, 33554431]
theorem carillonlaw12_ViewTells.tab4 : rtab .any (opsOf Try.f3 4) = carillonlaw12_ViewTells.T4 := by kernel_rfl
theorem carillonlaw12_ViewTells.bits4 : waitsOk carillonlaw12_ViewTells.T4.2 carillonlaw12_ViewTells.B4 = true := by kernel_rfl
def carillonlaw12_ViewTells.T6 : Bool × List (List Nat × List Nat) := (true, [([], []), ([0], [0]), ([1], [1]), ([2, 1, 1], [1, 2]), ([1], [1]), ([4, 3, 1], [1, 4]), ([3, 5, 1], [1, 3, 5]), ([1, 6], [1, 6]), ([7, 5], [7]), ([8], [8]), ([9, 8, 8], [8, 9]), ([8], [8]), ([10, 11, 8], [8, 10, 11]), ([8, 12], [8, 12]), ([13, 10], [13]), ([14], [14]), ([15, 14, 14], [14, 15]), ([14], [14]), ([17, 16, 14], [14, 17]), ([16, 18, 14], [14, 16, 18]), ([14, 19], [14, 19]), ([20, 18], [20]), ([21], [21]), ([21], [21]), ([22, 23, 21, 21], [21, 22, 23]), ([21], [21]), ([21], [21]), ([25, 26, 24, 21], [21, 25, 26]), ([24, 27, 21], [21, 24, 27]), ([21, 28], [21, 28]), ([29, 27], [29]), ([30], [30]), ([30], [30]), ([31, 32, 30, 30], [30, 31, 32]), ([30], [30]), ([30], [30]), ([34, 35, 33, 30], [30, 34, 35]), ([33, 36, 30], [30, 33, 36]), ([30, 37], [30, 37]), ([38, 36, 0, 1, 2, 3, 4, 5, 6, 7, 8, 9, 10, 11, 12, 13, 14, 15, 16, 17, 18, 19, 20, 21, 22, 23, 24, 25, 26, 27, 28, 29, 30, 31, 32, 33, 34, 35, 36, 37, 38], [38])])
def carillonlaw12_ViewTells.B6 : List Nat := [0, 1, 3, 7, 3, 31, 63, 127, 255, 511, 1023, 511, 4095, 8191, 16383, 32767, 65535, 32767, 262143, 524287, 1048575, 2097151, 4194303, 4194303, 16777215, 4194303, 4194303, 134217727, 268435455, 536870911, 1073741823, 2147483647, 2147483647, 8589934591, 2147483647, 2147483647, 68719476735, 137438953471, 274877906943, 549755813887]
theorem carillonlaw12_ViewTells.tab6 : rtab .any (opsOf Try.f3 6) = carillonlaw12_ViewTells.T6 := by kernel_rfl
theorem carillonlaw12_ViewTells.bits6 : waitsOk carillonlaw12_ViewTells.T6.2 carillonlaw12_ViewTells.B6 = true := by kernel_rfl
set_option maxHeartbeats 8000000 in
set_option maxRecDepth 100000 in
theorem carillonlaw12_ViewTells.calls (k : Nat) (a0_0 : Int) (A0_1 : Option Addr) (c0_1 : Nat) (l0_1 : List (S26)) (a1_0 : Int) (A1_1 : Option Addr) (c1_1 : Nat) (l1_1 : List (S26)) (a2_0 : Int) (a2_1 : Int) (r : Bool) (w : World) (hr0_1 : Kd.C k26 w A0_1 l0_1.length l0_1) (hc0_1 : l0_1.length ≤ c0_1) (hr1_1 : Kd.C k26 w A1_1 l1_1.length l1_1) (hc1_1 : l1_1.length ≤ c1_1) (hr_ : Aside0 (r = true)) (h : carillonlaw12_ViewTells.f k a0_0 l0_1 a1_0 l1_1 a2_0 a2_1 = some r) :
  Calls Try.prog 3 #[.agg #[.int .i64 a0_0, .slice A0_1 l0_1.length c0_1], .agg #[.int .i64 a1_0, .slice A1_1 l1_1.length c1_1], .agg #[.int .i64 a2_0, .int .i64 a2_1]] w fun e w' => e = .returned (.bool r) ∧ Below w.heap.size w w' := by
 have hu24 := Try.underlying24
 have hu26 := Try.underlying26
 have HR0_1 := Aside0.mk hr0_1
 have HC0_1 := Aside0.mk hc0_1
 clear hr0_1 hc0_1
 have HR1_1 := Aside0.mk hr1_1
 have HC1_1 := Aside0.mk hc1_1
 clear hr1_1 hc1_1
 have HB := Aside0.mk (Below.refl w.heap.size w)
 have H : ((carillonlaw12_examples.f).bind fun t195 => ((view_First.f k a0_0 l0_1).bind fun bt196 => ((carillonref12_Right.f k a0_0 l0_1).bind fun t200 => (if t200 = true then (if bt196.2.2 = 0 then (if 0 < (l0_1.length : Int) then (if (!(bt196.1 == ((rd_T26 l0_1 0).f0)) || (!(bt196.2.1 == ((rd_T26 l0_1 0).f1)))) = true then (some false) else (if t195 = true then ((view_RightMember.f a2_0 a2_1).bind fun t202 => ((carillonref12_RightMember.f a2_0 a2_1).bind fun t203 => (if (t202 == t203) = true then ((view_Right.f k a0_0 l0_1).bind fun t204 => (if (t204 == t200) = true then ((view_Majority.f a0_0 l0_1).bind fun t205 => ((carillonref12_Majority.f a0_0 l0_1).bind fun t206 => (if t205 = t206 then ((view_Has.f k a0_0 l0_1 a2_0 a2_1).bind fun t207 => ((carillonref12_Has.f k a0_0 l0_1 a2_0 a2_1).bind fun t208 => (if (t207 == t208) = true then ((view_Common.f a0_0 l0_1 a1_0 l1_1).bind fun t209 => ((carillonref12_Common.f k a0_0 l0_1 a1_0 l1_1).bind fun t210 => (some (t209 == t210)))) else (some false)))) else (some false)))) else (some false))) else (some false)))) else (some false))) else (none)) else (some false)) else (if bt196.2.2 = 1 then (if (!(bt196.1 == 0) || (!(bt196.2.1 == 0))) = true then (some false) else (if t195 = true then ((view_RightMember.f a2_0 a2_1).bind fun t211 => ((carillonref12_RightMember.f a2_0 a2_1).bind fun t212 => (if (t211 == t212) = true then ((view_Right.f k a0_0 l0_1).bind fun t213 => (if (t213 == t200) = true then ((view_Majority.f a0_0 l0_1).bind fun t214 => ((carillonref12_Majority.f a0_0 l0_1).bind fun t215 => (if t214 = t215 then ((view_Has.f k a0_0 l0_1 a2_0 a2_1).bind fun t216 => ((carillonref12_Has.f k a0_0 l0_1 a2_0 a2_1).bind fun t217 => (if (t216 == t217) = true then ((view_Common.f a0_0 l0_1 a1_0 l1_1).bind fun t218 => ((carillonref12_Common.f k a0_0 l0_1 a1_0 l1_1).bind fun t219 => (some (t218 == t219)))) else (some false)))) else (some false)))) else (some false))) else (some false)))) else (some false))) else (some false)))))) = some r := h
 clear h
 replace H := Option.bind_eq_some_iff.mp H
 obtain ⟨t195, A40, H⟩ := H
 replace H : ((view_First.f k a0_0 l0_1).bind fun bt196 => ((carillonref12_Right.f k a0_0 l0_1).bind fun t200 => (if t200 = true then (if bt196.2.2 = 0 then (if 0 < (l0_1.length : Int) then (if (!(bt196.1 == ((rd_T26 l0_1 0).f0)) || (!(bt196.2.1 == ((rd_T26 l0_1 0).f1)))) = true then (some false) else (if t195 = true then ((view_RightMember.f a2_0 a2_1).bind fun t202 => ((carillonref12_RightMember.f a2_0 a2_1).bind fun t203 => (if (t202 == t203) = true then ((view_Right.f k a0_0 l0_1).bind fun t204 => (if (t204 == t200) = true then ((view_Majority.f a0_0 l0_1).bind fun t205 => ((carillonref12_Majority.f a0_0 l0_1).bind fun t206 => (if t205 = t206 then ((view_Has.f k a0_0 l0_1 a2_0 a2_1).bind fun t207 => ((carillonref12_Has.f k a0_0 l0_1 a2_0 a2_1).bind fun t208 => (if (t207 == t208) = true then ((view_Common.f a0_0 l0_1 a1_0 l1_1).bind fun t209 => ((carillonref12_Common.f k a0_0 l0_1 a1_0 l1_1).bind fun t210 => (some (t209 == t210)))) else (some false)))) else (some false)))) else (some false))) else (some false)))) else (some false))) else (none)) else (some false)) else (if bt196.2.2 = 1 then (if (!(bt196.1 == 0) || (!(bt196.2.1 == 0))) = true then (some false) else (if t195 = true then ((view_RightMember.f a2_0 a2_1).bind fun t211 => ((carillonref12_RightMember.f a2_0 a2_1).bind fun t212 => (if (t211 == t212) = true then ((view_Right.f k a0_0 l0_1).bind fun t213 => (if (t213 == t200) = true then ((view_Majority.f a0_0 l0_1).bind fun t214 => ((carillonref12_Majority.f a0_0 l0_1).bind fun t215 => (if t214 = t215 then ((view_Has.f k a0_0 l0_1 a2_0 a2_1).bind fun t216 => ((carillonref12_Has.f k a0_0 l0_1 a2_0 a2_1).bind fun t217 => (if (t216 == t217) = true then ((view_Common.f a0_0 l0_1 a1_0 l1_1).bind fun t218 => ((carillonref12_Common.f k a0_0 l0_1 a1_0 l1_1).bind fun t219 => (some (t218 == t219)))) else (some false)))) else (some false)))) else (some false))) else (some false)))) else (some false))) else (some false))))) = some r := H
 have A4 := Aside0.mk A40
 clear A40
 replace H := Option.bind_eq_some_iff.mp H
 obtain ⟨⟨t196, t197, t198⟩, A50, H⟩ := H
 replace H : ((carillonref12_Right.f k a0_0 l0_1).bind fun t200 => (if t200 = true then (if t198 = 0 then (if 0 < (l0_1.length : Int) then (if (!(t196 == ((rd_T26 l0_1 0).f0)) || (!(t197 == ((rd_T26 l0_1 0).f1)))) = true then (some false) else (if t195 = true then ((view_RightMember.f a2_0 a2_1).bind fun t202 => ((carillonref12_RightMember.f a2_0 a2_1).bind fun t203 => (if (t202 == t203) = true then ((view_Right.f k a0_0 l0_1).bind fun t204 => (if (t204 == t200) = true then ((view_Majority.f a0_0 l0_1).bind fun t205 => ((carillonref12_Majority.f a0_0 l0_1).bind fun t206 => (if t205 = t206 then ((view_Has.f k a0_0 l0_1 a2_0 a2_1).bind fun t207 => ((carillonref12_Has.f k a0_0 l0_1 a2_0 a2_1).bind fun t208 => (if (t207 == t208) = true then ((view_Common.f a0_0 l0_1 a1_0 l1_1).bind fun t209 => ((carillonref12_Common.f k a0_0 l0_1 a1_0 l1_1).bind fun t210 => (some (t209 == t210)))) else (some false)))) else (some false)))) else (some false))) else (some false)))) else (some false))) else (none)) else (some false)) else (if t198 = 1 then (if (!(t196 == 0) || (!(t197 == 0))) = true then (some false) else (if t195 = true then ((view_RightMember.f a2_0 a2_1).bind fun t211 => ((carillonref12_RightMember.f a2_0 a2_1).bind fun t212 => (if (t211 == t212) = true then ((view_Right.f k a0_0 l0_1).bind fun t213 => (if (t213 == t200) = true then ((view_Majority.f a0_0 l0_1).bind fun t214 => ((carillonref12_Majority.f a0_0 l0_1).bind fun t215 => (if t214 = t215 then ((view_Has.f k a0_0 l0_1 a2_0 a2_1).bind fun t216 => ((carillonref12_Has.f k a0_0 l0_1 a2_0 a2_1).bind fun t217 => (if (t216 == t217) = true then ((view_Common.f a0_0 l0_1 a1_0 l1_1).bind fun t218 => ((carillonref12_Common.f k a0_0 l0_1 a1_0 l1_1).bind fun t219 => (some (t218 == t219)))) else (some false)))) else (some false)))) else (some false))) else (some false)))) else (some false))) else (some false)))) = some r := H
 have A5 := Aside0.mk A50
 clear A50
 replace H := Option.bind_eq_some_iff.mp H
 obtain ⟨t200, A60, H⟩ := H
 replace H : (if t200 = true then (if t198 = 0 then (if 0 < (l0_1.length : Int) then (if (!(t196 == ((rd_T26 l0_1 0).f0)) || (!(t197 == ((rd_T26 l0_1 0).f1)))) = true then (some false) else (if t195 = true then ((view_RightMember.f a2_0 a2_1).bind fun t202 => ((carillonref12_RightMember.f a2_0 a2_1).bind fun t203 => (if (t202 == t203) = true then ((view_Right.f k a0_0 l0_1).bind fun t204 => (if (t204 == t200) = true then ((view_Majority.f a0_0 l0_1).bind fun t205 => ((carillonref12_Majority.f a0_0 l0_1).bind fun t206 => (if t205 = t206 then ((view_Has.f k a0_0 l0_1 a2_0 a2_1).bind fun t207 => ((carillonref12_Has.f k a0_0 l0_1 a2_0 a2_1).bind fun t208 => (if (t207 == t208) = true then ((view_Common.f a0_0 l0_1 a1_0 l1_1).bind fun t209 => ((carillonref12_Common.f k a0_0 l0_1 a1_0 l1_1).bind fun t210 => (some (t209 == t210)))) else (some false)))) else (some false)))) else (some false))) else (some false)))) else (some false))) else (none)) else (some false)) else (if t198 = 1 then (if (!(t196 == 0) || (!(t197 == 0))) = true then (some false) else (if t195 = true then ((view_RightMember.f a2_0 a2_1).bind fun t211 => ((carillonref12_RightMember.f a2_0 a2_1).bind fun t212 => (if (t211 == t212) = true then ((view_Right.f k a0_0 l0_1).bind fun t213 => (if (t213 == t200) = true then ((view_Majority.f a0_0 l0_1).bind fun t214 => ((carillonref12_Majority.f a0_0 l0_1).bind fun t215 => (if t214 = t215 then ((view_Has.f k a0_0 l0_1 a2_0 a2_1).bind fun t216 => ((carillonref12_Has.f k a0_0 l0_1 a2_0 a2_1).bind fun t217 => (if (t216 == t217) = true then ((view_Common.f a0_0 l0_1 a1_0 l1_1).bind fun t218 => ((carillonref12_Common.f k a0_0 l0_1 a1_0 l1_1).bind fun t219 => (some (t218 == t219)))) else (some false)))) else (some false)))) else (some false))) else (some false)))) else (some false))) else (some false))) = some r := H
 have A6 := Aside0.mk A60
 clear A60
 by_cases c7 : t200 = true
 ·subst c7
  have H1 : (if t198 = 0 then (if 0 < (l0_1.length : Int) then (if (!(t196 == ((rd_T26 l0_1 0).f0)) || (!(t197 == ((rd_T26 l0_1 0).f1)))) = true then (some false) else (if t195 = true then ((view_RightMember.f a2_0 a2_1).bind fun t202 => ((carillonref12_RightMember.f a2_0 a2_1).bind fun t203 => (if (t202 == t203) = true then ((view_Right.f k a0_0 l0_1).bind fun t204 => (if (t204 == true) = true then ((view_Majority.f a0_0 l0_1).bind fun t205 => ((carillonref12_Majority.f a0_0 l0_1).bind fun t206 => (if t205 = t206 then ((view_Has.f k a0_0 l0_1 a2_0 a2_1).bind fun t207 => ((carillonref12_Has.f k a0_0 l0_1 a2_0 a2_1).bind fun t208 => (if (t207 == t208) = true then ((view_Common.f a0_0 l0_1 a1_0 l1_1).bind fun t209 => ((carillonref12_Common.f k a0_0 l0_1 a1_0 l1_1).bind fun t210 => (some (t209 == t210)))) else (some false)))) else (some false)))) else (some false))) else (some false)))) else (some false))) else (none)) else (some false)) = some r := by rw [if_pos rfl] at H; exact H
  clear H
  have H := H1
  clear H1
  by_cases c8 : t198 = 0
  ·rw [if_pos c8] at H
   have c8b0 : (t198 == 0) = true := beq_iff_eq.mpr c8
   have c8b1 : (t198 != 0) = false := bne_eq_false_iff_eq.mpr c8
   clear c8
   by_cases c9 : 0 < (l0_1.length : Int)
   ·rw [if_pos c9] at H
    have c9b0 : decide (0 < (l0_1.length : Int)) = true := decide_eq_true c9
    have c9b1 : decide (0 < l0_1.length) = true := decide_eq_true (by omega)
    clear c9
    by_cases c10 : (!(t196 == ((rd_T26 l0_1 0).f0)) || (!(t197 == ((rd_T26 l0_1 0).f1)))) = true
    ·rw [if_pos c10] at H
     have c10b0 : (!(t196 == ((rd_T26 l0_1 0).f0)) || (!(t197 == ((rd_T26 l0_1 0).f1)))) = true := c10
     (try (have c10b1 : (t196 == ((rd_T26 l0_1 0).f0) && (t197 == ((rd_T26 l0_1 0).f1))) = false := by have e_ : (t196 == ((rd_T26 l0_1 0).f0) && (t197 == ((rd_T26 l0_1 0).f1))) = (!(!(t196 == ((rd_T26 l0_1 0).f0)) || (!(t197 == ((rd_T26 l0_1 0).f1))))) := (by simp only [Bool.not_or, Bool.not_and, Bool.not_not]); rw [e_]; first | (simp only [c10, Bool.not_true]; done) | (simp only [Bool.eq_false_iff.mpr c10, Bool.not_false]; done)))
     clear c10
     exact absurd ((Option.some.inj H).trans hr_.out) (by decide)
    ·rw [if_neg c10] at H
     have c10b0 : (!(t196 == ((rd_T26 l0_1 0).f0)) || (!(t197 == ((rd_T26 l0_1 0).f1)))) = false := by simpa using c10
     (try (have c10b1 : (t196 == ((rd_T26 l0_1 0).f0) && (t197 == ((rd_T26 l0_1 0).f1))) = true := by have e_ : (t196 == ((rd_T26 l0_1 0).f0) && (t197 == ((rd_T26 l0_1 0).f1))) = (!(!(t196 == ((rd_T26 l0_1 0).f0)) || (!(t197 == ((rd_T26 l0_1 0).f1))))) := (by simp only [Bool.not_or, Bool.not_and, Bool.not_not]); rw [e_]; first | (simp only [c10, Bool.not_true]; done) | (simp only [Bool.eq_false_iff.mpr c10, Bool.not_false]; done)))
     clear c10
     by_cases c11 : t195 = true
     ·subst c11
      have H1 : ((view_RightMember.f a2_0 a2_1).bind fun t202 => ((carillonref12_RightMember.f a2_0 a2_1).bind fun t203 => (if (t202 == t203) = true then ((view_Right.f k a0_0 l0_1).bind fun t204 => (if (t204 == true) = true then ((view_Majority.f a0_0 l0_1).bind fun t205 => ((carillonref12_Majority.f a0_0 l0_1).bind fun t206 => (if t205 = t206 then ((view_Has.f k a0_0 l0_1 a2_0 a2_1).bind fun t207 => ((carillonref12_Has.f k a0_0 l0_1 a2_0 a2_1).bind fun t208 => (if (t207 == t208) = true then ((view_Common.f a0_0 l0_1 a1_0 l1_1).bind fun t209 => ((carillonref12_Common.f k a0_0 l0_1 a1_0 l1_1).bind fun t210 => (some (t209 == t210)))) else (some false)))) else (some false)))) else (some false))) else (some false)))) = some r := by rw [if_pos rfl] at H; exact H
      clear H
      have H := H1
      clear H1
      replace H := Option.bind_eq_some_iff.mp H
      obtain ⟨t202, A120, H⟩ := H
      replace H : ((carillonref12_RightMember.f a2_0 a2_1).bind fun t203 => (if (t202 == t203) = true then ((view_Right.f k a0_0 l0_1).bind fun t204 => (if (t204 == true) = true then ((view_Majority.f a0_0 l0_1).bind fun t205 => ((carillonref12_Majority.f a0_0 l0_1).bind fun t206 => (if t205 = t206 then ((view_Has.f k a0_0 l0_1 a2_0 a2_1).bind fun t207 => ((carillonref12_Has.f k a0_0 l0_1 a2_0 a2_1).bind fun t208 => (if (t207 == t208) = true then ((view_Common.f a0_0 l0_1 a1_0 l1_1).bind fun t209 => ((carillonref12_Common.f k a0_0 l0_1 a1_0 l1_1).bind fun t210 => (some (t209 == t210)))) else (some false)))) else (some false)))) else (some false))) else (some false))) = some r := H
      have A12 := Aside0.mk A120
      clear A120
      replace H := Option.bind_eq_some_iff.mp H
      obtain ⟨t203, A130, H⟩ := H
      replace H : (if (t202 == t203) = true then ((view_Right.f k a0_0 l0_1).bind fun t204 => (if (t204 == true) = true then ((view_Majority.f a0_0 l0_1).bind fun t205 => ((carillonref12_Majority.f a0_0 l0_1).bind fun t206 => (if t205 = t206 then ((view_Has.f k a0_0 l0_1 a2_0 a2_1).bind fun t207 => ((carillonref12_Has.f k a0_0 l0_1 a2_0 a2_1).bind fun t208 => (if (t207 == t208) = true then ((view_Common.f a0_0 l0_1 a1_0 l1_1).bind fun t209 => ((carillonref12_Common.f k a0_0 l0_1 a1_0 l1_1).bind fun t210 => (some (t209 == t210)))) else (some false)))) else (some false)))) else (some false))) else (some false)) = some r := H
      have A13 := Aside0.mk A130
      clear A130
      by_cases c14 : (t202 == t203) = true
      ·rw [if_pos c14] at H
       have c14b0 : (t202 == t203) = true := c14
       (try (have c14b1 : decide (t202 = t203) = true := by simpa using c14))
       (try (have c14b2 : (t202 == t203) = true := by simpa using c14))
       clear c14
       replace H := Option.bind_eq_some_iff.mp H
       obtain ⟨t204, A150, H⟩ := H
       replace H : (if (t204 == true) = true then ((view_Majority.f a0_0 l0_1).bind fun t205 => ((carillonref12_Majority.f a0_0 l0_1).bind fun t206 => (if t205 = t206 then ((view_Has.f k a0_0 l0_1 a2_0 a2_1).bind fun t207 => ((carillonref12_Has.f k a0_0 l0_1 a2_0 a2_1).bind fun t208 => (if (t207 == t208) = true then ((view_Common.f a0_0 l0_1 a1_0 l1_1).bind fun t209 => ((carillonref12_Common.f k a0_0 l0_1 a1_0 l1_1).bind fun t210 => (some (t209 == t210)))) else (some false)))) else (some false)))) else (some false)) = some r := H
       have A15 := Aside0.mk A150
       clear A150
       by_cases c16 : (t204 == true) = true
       ·rw [if_pos c16] at H
        have c16b0 : (t204 == true) = true := c16
        (try (have c16b1 : decide (t204 = true) = true := by simpa using c16))
        (try (have c16b2 : (t204 == true) = true := by simpa using c16))
        clear c16
        replace H := Option.bind_eq_some_iff.mp H
        obtain ⟨t205, A170, H⟩ := H
        replace H : ((carillonref12_Majority.f a0_0 l0_1).bind fun t206 => (if t205 = t206 then ((view_Has.f k a0_0 l0_1 a2_0 a2_1).bind fun t207 => ((carillonref12_Has.f k a0_0 l0_1 a2_0 a2_1).bind fun t208 => (if (t207 == t208) = true then ((view_Common.f a0_0 l0_1 a1_0 l1_1).bind fun t209 => ((carillonref12_Common.f k a0_0 l0_1 a1_0 l1_1).bind fun t210 => (some (t209 == t210)))) else (some false)))) else (some false))) = some r := H
        have A17 := Aside0.mk A170
        clear A170
        replace H := Option.bind_eq_some_iff.mp H
        obtain ⟨t206, A180, H⟩ := H
        replace H : (if t205 = t206 then ((view_Has.f k a0_0 l0_1 a2_0 a2_1).bind fun t207 => ((carillonref12_Has.f k a0_0 l0_1 a2_0 a2_1).bind fun t208 => (if (t207 == t208) = true then ((view_Common.f a0_0 l0_1 a1_0 l1_1).bind fun t209 => ((carillonref12_Common.f k a0_0 l0_1 a1_0 l1_1).bind fun t210 => (some (t209 == t210)))) else (some false)))) else (some false)) = some r := H
        have A18 := Aside0.mk A180
        clear A180
        by_cases c19 : t205 = t206
        ·rw [if_pos c19] at H
         have c19b0 : (t205 == t206) = true := beq_iff_eq.mpr c19
         have c19b1 : (t205 != t206) = false := bne_eq_false_iff_eq.mpr c19
         clear c19
         replace H := Option.bind_eq_some_iff.mp H
         obtain ⟨t207, A200, H⟩ := H
         replace H : ((carillonref12_Has.f k a0_0 l0_1 a2_0 a2_1).bind fun t208 => (if (t207 == t208) = true then ((view_Common.f a0_0 l0_1 a1_0 l1_1).bind fun t209 => ((carillonref12_Common.f k a0_0 l0_1 a1_0 l1_1).bind fun t210 => (some (t209 == t210)))) else (some false))) = some r := H
         have A20 := Aside0.mk A200
         clear A200
         replace H := Option.bind_eq_some_iff.mp H
         obtain ⟨t208, A210, H⟩ := H
         replace H : (if (t207 == t208) = true then ((view_Common.f a0_0 l0_1 a1_0 l1_1).bind fun t209 => ((carillonref12_Common.f k a0_0 l0_1 a1_0 l1_1).bind fun t210 => (some (t209 == t210)))) else (some false)) = some r := H
         have A21 := Aside0.mk A210
         clear A210
         by_cases c22 : (t207 == t208) = true
         ·rw [if_pos c22] at H
          have c22b0 : (t207 == t208) = true := c22
          (try (have c22b1 : decide (t207 = t208) = true := by simpa using c22))
          (try (have c22b2 : (t207 == t208) = true := by simpa using c22))
          clear c22
          replace H := Option.bind_eq_some_iff.mp H
          obtain ⟨t209, A230, H⟩ := H
          replace H : ((carillonref12_Common.f k a0_0 l0_1 a1_0 l1_1).bind fun t210 => (some (t209 == t210))) = some r := H
          have A23 := Aside0.mk A230
          clear A230
          replace H := Option.bind_eq_some_iff.mp H
          obtain ⟨t210, A240, H⟩ := H
          replace H : (some (t209 == t210)) = some r := H
          have A24 := Aside0.mk A240
          clear A240
          obtain rfl := Option.some.inj H
          go_enter Try.func3, Try.ntmps3
          try go_wp2_with (first | ((with_reducible refine gate_dst (N := 3) rfl ?_); refine box_event ?hg (N := 3) ?hd (cs := #[.int .i64 a0_0, .slice A0_1 l0_1.length c0_1]) (t := 24) ?hr ?_; (case hd => rfl); (case hg => rfl); (case hr => first | (go_simp; done) | (go_simp; rfl)); intro gb192 hg w25 hbox hb; have n0_ := Aside0.mk (below_step bw hb); have n1_ := Aside0.mk (hbox); have n2_ := Aside0.mk ((g1 hg bw : w.heap.size ≤ gb192)); have n3_ := Aside0.mk ((g1 hg bw : w.heap.size ≤ gb192)); clear HB; have HB := n0_; have BK192 := n1_; have GW192 := n2_; have GE192 := n3_; clear n0_ n1_ n2_ n3_; clear hb hbox hg) | ((with_reducible refine gate_dst (N := 4) rfl ?_); refine box_event ?hg (N := 4) ?hd (cs := #[.int .i64 a1_0, .slice A1_1 l1_1.length c1_1]) (t := 24) ?hr ?_; (case hd => rfl); (case hg => rfl); (case hr => first | (go_simp; done) | (go_simp; rfl)); intro gb193 hg w26 hbox hb; have n0_ := Aside0.mk (nb BK192.out hb); have n1_ := Aside0.mk (below_step bw hb); have n2_ := Aside0.mk (hbox); have n3_ := Aside0.mk ((g1 hg bw : w.heap.size ≤ gb193)); have n4_ := Aside0.mk ((g1 hg bw : w.heap.size ≤ gb193)); have n5_ := Aside0.mk ((n1 hg BK192.out : gb192 ≠ gb193)); have n6_ := Aside0.mk ((n2 hg BK192.out : gb193 ≠ gb192)); clear BK192; clear HB; have BK192 := n0_; have HB := n1_; have BK193 := n2_; have GW193 := n3_; have GE193 := n4_; have NB192_193 := n5_; have NB193_192 := n6_; clear n0_ n1_ n2_ n3_ n4_ n5_ n6_; clear hb hbox hg) | ((with_reducible refine gate_dst (N := 5) rfl ?_); refine box_event ?hg (N := 5) ?hd (cs := #[.int .i64 a2_0, .int .i64 a2_1]) (t := 26) ?hr ?_; (case hd => rfl); (case hg => rfl); (case hr => first | (go_simp; done) | (go_simp; rfl)); intro gb194 hg w27 hbox hb; have n0_ := Aside0.mk (nb BK192.out hb); have n1_ := Aside0.mk (nb BK193.out hb); have n2_ := Aside0.mk (below_step bw hb); have n3_ := Aside0.mk (hbox); have n4_ := Aside0.mk ((g1 hg bw : w.heap.size ≤ gb194)); have n5_ := Aside0.mk ((g1 hg bw : w.heap.size ≤ gb194)); have n6_ := Aside0.mk ((n1 hg BK192.out : gb192 ≠ gb194)); have n7_ := Aside0.mk ((n2 hg BK192.out : gb194 ≠ gb192)); have n8_ := Aside0.mk ((n1 hg BK193.out : gb193 ≠ gb194)); have n9_ := Aside0.mk ((n2 hg BK193.out : gb194 ≠ gb193)); clear BK192; clear BK193; clear HB; have BK192 := n0_; have BK193 := n1_; have HB := n2_; have BK194 := n3_; have GW194 := n4_; have GE194 := n5_; have NB192_194 := n6_; have NB194_192 := n7_; have NB193_194 := n8_; have NB194_193 := n9_; clear n0_ n1_ n2_ n3_ n4_ n5_ n6_ n7_ n8_ n9_; clear hb hbox hg) | ((with_reducible refine gate_callee (f := 7) rfl ?_); refine goesL_ (some 11) rfl rfl Try.func7 (by kernel_rfl) rfl #[] rfl am ?_; (with_reducible refine (carillonlaw12_examples.calls  true _ A4.out).mono ?_); rintro e w28 ⟨rfl, hb⟩; refine ⟨_, rfl, ?_⟩; have n0_ := Aside0.mk (nb BK192.out hb); have n1_ := Aside0.mk (nb BK193.out hb); have n2_ := Aside0.mk (nb BK194.out hb); have n3_ := Aside0.mk (below_step bw hb); clear BK192; clear BK193; clear BK194; clear HB; have BK192 := n0_; have BK193 := n1_; have BK194 := n2_; have HB := n3_; clear n0_ n1_ n2_ n3_; (try clear hb); (try clear hb2); (try clear hk); (try clear hi); have hnb29 := NB192_193.out; have hnc29 := NB193_192.out; have hnb30 := NB192_194.out; have hnc30 := NB194_192.out; have hcz31_0 := bc2_0 BK192.out; have hcz31_1 := bc2_1 BK192.out; have hfz31_0 := blk_frozen BK192.out 0; have hfz31_1 := blk_frozen BK192.out 1) | ((with_reducible refine gate_callee (f := 8) rfl ?_); refine goesL_ (some 14) rfl rfl Try.func8 (by kernel_rfl) rfl #[.agg #[.int .i64 a0_0, .slice A0_1 l0_1.length c0_1]] rfl am ?_; (with_reducible refine (view_First.calls k a0_0 _ _ l0_1 t196 t197 t198 _ ?side1 ?side2 A5.out).mono ?_); (case side1 => repeat (first | exact (Kd.C_below HR0_1.out HB.out) | (with_reducible refine Kd.C_alloc ?_ _) | (with_reducible refine Kd.C_drewN ?_ _) | (with_reducible refine Kd.C_drew ?_))); (case side2 => exact HC0_1.out); rintro e w32 ⟨rfl, hb⟩; refine ⟨_, rfl, ?_⟩; have n0_ := Aside0.mk (nb BK192.out hb); have n1_ := Aside0.mk (nb BK193.out hb); have n2_ := Aside0.mk (nb BK194.out hb); have n3_ := Aside0.mk (below_step bw hb); clear BK192; clear BK193; clear BK194; clear HB; have BK192 := n0_; have BK193 := n1_; have BK194 := n2_; have HB := n3_; clear n0_ n1_ n2_ n3_; (try clear hb); (try clear hb2); (try clear hk); (try clear hi)) | ((with_reducible refine gate_dst (N := 8) rfl ?_); refine box_event ?hg (N := 8) ?hd (cs := #[.int .i64 0, .int .i64 0]) (t := 26) ?hr ?_; (case hd => rfl); (case hg => rfl); (case hr => first | (go_simp; done) | (go_simp; rfl)); intro gb199 hg w33 hbox hb; have n0_ := Aside0.mk (nb BK192.out hb); have n1_ := Aside0.mk (nb BK193.out hb); have n2_ := Aside0.mk (nb BK194.out hb); have n3_ := Aside0.mk (below_step bw hb); have n4_ := Aside0.mk (hbox); have n5_ := Aside0.mk ((g1 hg bw : w.heap.size ≤ gb199)); have n6_ := Aside0.mk ((g1 hg bw : w.heap.size ≤ gb199)); have n7_ := Aside0.mk ((n1 hg BK192.out : gb192 ≠ gb199)); have n8_ := Aside0.mk ((n2 hg BK192.out : gb199 ≠ gb192)); have n9_ := Aside0.mk ((n1 hg BK193.out : gb193 ≠ gb199)); have n10_ := Aside0.mk ((n2 hg BK193.out : gb199 ≠ gb193)); have n11_ := Aside0.mk ((n1 hg BK194.out : gb194 ≠ gb199)); have n12_ := Aside0.mk ((n2 hg BK194.out : gb199 ≠ gb194)); clear BK192; clear BK193; clear BK194; clear HB; have BK192 := n0_; have BK193 := n1_; have BK194 := n2_; have HB := n3_; have BK199 := n4_; have GW199 := n5_; have GE199 := n6_; have NB192_199 := n7_; have NB199_192 := n8_; have NB193_199 := n9_; have NB199_193 := n10_; have NB194_199 := n11_; have NB199_194 := n12_; clear n0_ n1_ n2_ n3_ n4_ n5_ n6_ n7_ n8_ n9_ n10_ n11_ n12_; clear hb hbox hg; have hnb34 := NB199_192.out; have hnc34 := NB192_199.out; have hnb35 := NB199_193.out; have hnc35 := NB193_199.out; have hnb36 := NB199_194.out; have hnc36 := NB194_199.out; have hcz37_0 := bc2_0 BK199.out; have hcz37_1 := bc2_1 BK199.out; have hfz37_0 := blk_frozen BK199.out 0; have hfz37_1 := blk_frozen BK199.out 1; have hcz38_0 := bc2_0 BK192.out; have hcz38_1 := bc2_1 BK192.out; have hfz38_0 := blk_frozen BK192.out 0; have hfz38_1 := blk_frozen BK192.out 1) | ((with_reducible refine gate_callee (f := 9) rfl ?_); refine goesL_ (some 18) rfl rfl Try.func9 (by kernel_rfl) rfl #[.agg #[.int .i64 a0_0, .slice A0_1 l0_1.length c0_1]] rfl am ?_; (with_reducible refine (carillonref12_Right.calls k a0_0 _ _ l0_1 true _ ?side1 ?side2 A6.out).mono ?_); (case side1 => exact Kd.C_below HR0_1.out bw); (case side2 => exact HC0_1.out); rintro e w39 ⟨rfl, hb⟩; refine ⟨_, rfl, ?_⟩; have n0_ := Aside0.mk (blk_below (g := gb192) (o := .cells #[.int .i64 a0_0, .slice A0_1 l0_1.length c0_1] 24 (0, 0)) (by (with_reducible repeat (first | refine blk_drewN ?_ _ | refine blk_drew ?_ | refine blk_alloc ?_ _ | refine blk_far ?_ NB192_199.out _)); exact BK192.out) hb); have n1_ := Aside0.mk (blk_below (g := gb193) (o := .cells #[.int .i64 a1_0, .slice A1_1 l1_1.length c1_1] 24 (0, 0)) (by (with_reducible repeat (first | refine blk_drewN ?_ _ | refine blk_drew ?_ | refine blk_alloc ?_ _ | refine blk_far ?_ NB193_199.out _)); exact BK193.out) hb); have n2_ := Aside0.mk (blk_below (g := gb194) (o := .cells #[.int .i64 a2_0, .int .i64 a2_1] 26 (0, 0)) (by (with_reducible repeat (first | refine blk_drewN ?_ _ | refine blk_drew ?_ | refine blk_alloc ?_ _ | refine blk_far ?_ NB194_199.out _)); exact BK194.out) hb); have n3_ := Aside0.mk (blk_below (g := gb199) (o := .cells #[.int .i64 t196, .int .i64 t197] 26 (0, 0)) (by (with_reducible repeat (first | refine blk_drewN ?_ _ | refine blk_drew ?_ | refine blk_alloc ?_ _)); refine blk_put (cs := #[.int .i64 t196, .int .i64 0]) ?_ 1 _ rfl; (with_reducible repeat (first | refine blk_drewN ?_ _ | refine blk_drew ?_ | refine blk_alloc ?_ _)); refine blk_put (cs := #[.int .i64 0, .int .i64 0]) ?_ 0 _ rfl; (with_reducible repeat (first | refine blk_drewN ?_ _ | refine blk_drew ?_ | refine blk_alloc ?_ _)); exact BK199.out) hb); have n4_ := Aside0.mk (below_step bw hb); clear BK192; clear BK193; clear BK194; clear BK199; clear HB; have BK192 := n0_; have BK193 := n1_; have BK194 := n2_; have BK199 := n3_; have HB := n4_; clear n0_ n1_ n2_ n3_ n4_; (try clear hb); (try clear hb2); (try clear hk); (try clear hi)))
          have n0_ := Aside0.mk (blk_drew BK192.out)
          have n1_ := Aside0.mk (blk_drew BK193.out)
          have n2_ := Aside0.mk (blk_drew BK194.out)
          have n3_ := Aside0.mk (blk_drew BK199.out)
          have n4_ := Aside0.mk (below_drew1 HB.out)
          clear BK192
          clear BK193
          clear BK194
          clear BK199
          clear HB
          have BK192 := n0_
          have BK193 := n1_
          have BK194 := n2_
          have BK199 := n3_
          have HB := n4_
          clear n0_ n1_ n2_ n3_ n4_
          have p201 : 0 ≤ (0 : Int) := (by omega)
          have q201 : 0 < (l0_1.length : Int) := of_decide_eq_true (by first | (with_reducible assumption) | assumption)
          obtain ⟨ad201, e201, hx201_0, hx201_1⟩ := at_T26 HR0_1.out 0 p201 q201
          have hw201_1 := hx201_1
          (try rw [show ((0 : Int)).toNat = 0 from rfl] at hw201_1)
          (try rw [show 0 * 2 = 0 from rfl] at hw201_1)
          (try rw [Addr.add_zero'] at hw201_1)
          have hw201_0 := hx201_0
          (try rw [show ((0 : Int)).toNat = 0 from rfl] at hw201_0)
          (try rw [show 0 * 2 = 0 from rfl] at hw201_0)
          (try rw [Addr.add_zero'] at hw201_0)
          cases e201
          have qi201 : (0 < l0_1.length) = True := eq_true (by omega)
          (try rw [show ((0 : Int)).toNat = 0 from rfl] at hx201_0)
          (try rw [show 0 * 2 = 0 from rfl] at hx201_0)
          (try rw [Addr.add_zero'] at hx201_0)
          (try rw [show ((0 : Int)).toNat = 0 from rfl] at hx201_1)
          (try rw [show 0 * 2 = 0 from rfl] at hx201_1)
          (try rw [Addr.add_zero'] at hx201_1)
          replace hx201_0 := (HB.out.cell (World.block_lt_of_cell? w _ hx201_0)).trans hx201_0
          replace hx201_1 := (HB.out.cell (World.block_lt_of_cell? w _ hx201_1)).trans hx201_1
          replace p201 := eq_true p201
          replace q201 := eq_true q201
          refine start_ (n := 26) (S := fun w' => w'.cell? ⟨gb199, 0, none⟩ = some (.int .i64 t196) ∧ w'.cell? ⟨gb199, 1, none⟩ = some (.int .i64 t197) ∧ w'.cell? ⟨gb192, 0, none⟩ = some (.int .i64 a0_0) ∧ w'.cell? ⟨gb192, 1, none⟩ = some (.slice (some ad201) l0_1.length c0_1) ∧ w'.cell? ad201 = some (.int .i64 ((rd_T26 l0_1 0).f0)) ∧ w'.cell? ⟨ad201.block, ad201.off + 1, none⟩ = some (.int .i64 ((rd_T26 l0_1 0).f1))) (ds := []) #[false, false, false, false, false, false, false, false, false, false, false, false, false, false, false, false, false, false, false, false, false, false, false, false, false, false] (by kernel_rfl) rfl rfl ⟨(blk_cell BK199.out 0).trans rfl, (blk_cell BK199.out 1).trans rfl, (blk_cell BK192.out 0).trans rfl, (blk_cell BK192.out 1).trans rfl, ((HB.out.cell (World.block_lt_of_cell? w _ hw201_0)).trans hw201_0), ((HB.out.cell (World.block_lt_of_cell? w _ hw201_1)).trans hw201_1)⟩ (fun hHeld => ?_); refine with_tabW carillonlaw12_ViewTells.tab4 carillonlaw12_ViewTells.bits4 (fun HT_ HW_ => ?_)
          generalize w39.drew = w40 at BK192 BK193 BK194 BK199 HB hx201_0 hx201_1 hHeld ⊢
          refine pure_ (i := 0) (N := some 19) (v := ?_) (a' := ?_) #[true, false, false, false, false, false, false, false, false, false, false, false, false, false, false, false, false, false, false, false, false, false, false, false, false, false] rfl rfl (any_of HT_.out (by kernel_rfl)) (fun _ _ _ h => h) (Or.inl ⟨by rfl, ?_⟩) ?_ ?_
          rotate_left
          ·intro w'
           go_simp
           with_reducible rfl
          rotate_left
          ·simp only [Act.put, sl1, sl2, sl3, i64_w, i32_w]
           rfl
          refine pure_ (i := 1) (N := some 20) (v := ?_) (a' := ?_) #[true, true, false, false, false, false, false, false, false, false, false, false, false, false, false, false, false, false, false, false, false, false, false, false, false, false] rfl rfl (any_of HT_.out (by kernel_rfl)) (fun _ _ _ h => h) (Or.inl ⟨by rfl, ?_⟩) ?_ ?_
          rotate_left
          ·intro w'
           go_simp
           with_reducible rfl
          rotate_left
          ·simp only [Act.put, sl1, sl2, sl3, i64_w, i32_w]
           rfl
          refine pure_ (i := 2) (N := some 21) (v := ?_) (a' := ?_) #[true, true, true, false, false, false, false, false, false, false, false, false, false, false, false, false, false, false, false, false, false, false, false, false, false, false] rfl rfl (any_of HT_.out (by kernel_rfl)) (fun _ _ _ h => h) (Or.inl ⟨by rfl, ?_⟩) ?_ ?_
          rotate_left
          ·intro w'
           go_simp
           with_reducible rfl
          rotate_left
          ·simp only [Act.put, sl1, sl2, sl3, i64_w, i32_w]
           rfl
          refine pure_ (i := 3) (N := some 22) (v := ?_) (a' := ?_) #[true, true, true, true, false, false, false, false, false, false, false, false, false, false, false, false, false, false, false, false, false, false, false, false, false, false] rfl rfl (any_of HT_.out (by kernel_rfl)) (fun _ _ _ h => h) (Or.inl ⟨by rfl, ?_⟩) ?_ ?_
          rotate_left
          ·intro w'
           go_simp
           with_reducible rfl
          rotate_left
          ·simp only [Act.put, sl1, sl2, sl3, i64_w, i32_w]
           rfl
          refine pure_ (i := 4) (N := some 23) (v := ?_) (a' := ?_) #[true, true, true, true, true, false, false, false, false, false, false, false, false, false, false, false, false, false, false, false, false, false, false, false, false, false] rfl rfl (any_of HT_.out (by kernel_rfl)) (fun _ _ _ h => h) (Or.inl ⟨by rfl, ?_⟩) ?_ ?_
          rotate_left
          ·intro w'
           go_simp
           with_reducible rfl
          rotate_left
          ·simp only [Act.put, sl1, sl2, sl3, i64_w, i32_w]
           rfl
          refine pure_ (i := 6) (N := some 25) (v := ?_) (a' := ?_) #[true, true, true, true, true, false, true, false, false, false, false, false, false, false, false, false, false, false, false, false, false, false, false, false, false, false] rfl rfl (any_of HT_.out (by kernel_rfl)) (fun _ _ _ h => h) (Or.inl ⟨by rfl, ?_⟩) ?_ ?_
          rotate_left
          ·intro w'
           go_simp
           with_reducible rfl
          rotate_left
          ·simp only [Act.put, sl1, sl2, sl3, i64_w, i32_w]
           rfl
          refine take_ (i := 5) (N := some 24) (v := ?_) (a' := ?_) #[true, true, true, true, true, true, true, false, false, false, false, false, false, false, false, false, false, false, false, false, false, false, false, false, false, false] rfl rfl (take_ofW HT_.out HW_.out (by kernel_rfl)) (fun _ _ _ h => h) (Or.inl ⟨by rfl, ?_⟩) hHeld ?_ ?_
          rotate_left
          ·rintro w' ⟨s0, s1, s2, s3, s4, s5⟩
           go_simp
           with_reducible rfl
          rotate_left
          ·simp only [Act.put, sl1, sl2, sl3, i64_w, i32_w]
           rfl
          refine take_ (i := 7) (N := some 26) (v := ?_) (a' := ?_) #[true, true, true, true, true, true, true, true, false, false, false, false, false, false, false, false, false, false, false, false, false, false, false, false, false, false] rfl rfl (take_ofW HT_.out HW_.out (by kernel_rfl)) (fun _ _ _ h => h) (Or.inl ⟨by rfl, ?_⟩) hHeld ?_ ?_
          rotate_left
          ·rintro w' ⟨s0, s1, s2, s3, s4, s5⟩
           go_simp
           with_reducible rfl
          rotate_left
          ·simp only [Act.put, sl1, sl2, sl3, i64_w, i32_w]
           rfl
          refine pure_ (i := 8) (N := some 27) (v := ?_) (a' := ?_) #[true, true, true, true, true, true, true, true, true, false, false, false, false, false, false, false, false, false, false, false, false, false, false, false, false, false] rfl rfl (any_of HT_.out (by kernel_rfl)) (fun _ _ _ h => h) (Or.inl ⟨by rfl, ?_⟩) ?_ ?_
          rotate_left
          ·intro w'
           go_simp
           with_reducible rfl
          rotate_left
          ·simp only [Act.put, sl1, sl2, sl3, i64_w, i32_w]
           rfl
          refine take_ (i := 9) (N := some 28) (v := ?_) (a' := ?_) #[true, true, true, true, true, true, true, true, true, true, false, false, false, false, false, false, false, false, false, false, false, false, false, false, false, false] rfl rfl (take_ofW HT_.out HW_.out (by kernel_rfl)) (fun _ _ _ h => h) (Or.inl ⟨by rfl, ?_⟩) hHeld ?_ ?_
          rotate_left
          ·rintro w' ⟨s0, s1, s2, s3, s4, s5⟩
           go_simp
           with_reducible rfl
          rotate_left
          ·simp only [Act.put, sl1, sl2, sl3, i64_w, i32_w]
           rfl
          refine pure_ (i := 10) (N := some 29) (v := ?_) (a' := ?_) #[true, true, true, true, true, true, true, true, true, true, true, false, false, false, false, false, false, false, false, false, false, false, false, false, false, false] rfl rfl (any_of HT_.out (by kernel_rfl)) (fun _ _ _ h => h) (Or.inl ⟨by rfl, ?_⟩) ?_ ?_
          rotate_left
          ·intro w'
           go_simp
           with_reducible rfl
          rotate_left
          ·simp only [Act.put, sl1, sl2, sl3, i64_w, i32_w]
           rfl
          refine pure_ (i := 11) (N := some 30) (v := ?_) (a' := ?_) #[true, true, true, true, true, true, true, true, true, true, true, true, false, false, false, false, false, false, false, false, false, false, false, false, false, false] rfl rfl (any_of HT_.out (by kernel_rfl)) (fun _ _ _ h => h) (Or.inl ⟨by rfl, ?_⟩) ?_ ?_
          rotate_left
          ·intro w'
           go_simp
           with_reducible rfl
          rotate_left
          ·simp only [Act.put, sl1, sl2, sl3, i64_w, i32_w]
           rfl
          refine pure_ (i := 12) (N := some 31) (v := ?_) (a' := ?_) #[true, true, true, true, true, true, true, true, true, true, true, true, true, false, false, false, false, false, false, false, false, false, false, false, false, false] rfl rfl (any_of HT_.out (by kernel_rfl)) (fun _ _ _ h => h) (Or.inl ⟨by rfl, ?_⟩) ?_ ?_
          rotate_left
          ·intro w'
           go_simp
           with_reducible rfl
          rotate_left
          ·simp only [Act.put, sl1, sl2, sl3, i64_w, i32_w]
           rfl
          refine pure_ (i := 13) (N := some 32) (v := ?_) (a' := ?_) #[true, true, true, true, true, true, true, true, true, true, true, true, true, true, false, false, false, false, false, false, false, false, false, false, false, false] rfl rfl (any_of HT_.out (by kernel_rfl)) (fun _ _ _ h => h) (Or.inl ⟨by rfl, ?_⟩) ?_ ?_
          rotate_left
          ·intro w'
           go_simp
           with_reducible rfl
          rotate_left
          ·simp only [Act.put, sl1, sl2, sl3, i64_w, i32_w]
           rfl
          refine pure_ (i := 14) (N := some 33) (v := ?_) (a' := ?_) #[true, true, true, true, true, true, true, true, true, true, true, true, true, true, true, false, false, false, false, false, false, false, false, false, false, false] rfl rfl (any_of HT_.out (by kernel_rfl)) (fun _ _ _ h => h) (Or.inl ⟨by rfl, ?_⟩) ?_ ?_
          rotate_left
          ·intro w'
           go_simp
           with_reducible rfl
          rotate_left
          ·simp only [Act.put, sl1, sl2, sl3, i64_w, i32_w]
           rfl
          refine pure_ (i := 15) (N := some 34) (v := ?_) (a' := ?_) #[true, true, true, true, true, true, true, true, true, true, true, true, true, true, true, true, false, false, false, false, false, false, false, false, false, false] rfl rfl (any_of HT_.out (by kernel_rfl)) (fun _ _ _ h => h) (Or.inl ⟨by rfl, ?_⟩) ?_ ?_
          rotate_left
          ·intro w'
           go_simp
           with_reducible rfl
          rotate_left
          ·simp only [Act.put, sl1, sl2, sl3, i64_w, i32_w]
           rfl
          refine pure_ (i := 16) (N := some 35) (v := ?_) (a' := ?_) #[true, true, true, true, true, true, true, true, true, true, true, true, true, true, true, true, true, false, false, false, false, false, false, false, false, false] rfl rfl (any_of HT_.out (by kernel_rfl)) (fun _ _ _ h => h) (Or.inl ⟨by rfl, ?_⟩) ?_ ?_
          rotate_left
          ·intro w'
           go_simp
           with_reducible rfl
          rotate_left
          ·simp only [Act.put, sl1, sl2, sl3, i64_w, i32_w]
           rfl
          refine pure_ (i := 17) (N := some 36) (v := undef) (a' := ?_) #[true, true, true, true, true, true, true, true, true, true, true, true, true, true, true, true, true, true, false, false, false, false, false, false, false, false] rfl rfl (any_of HT_.out (by kernel_rfl)) (fun _ _ _ h => h) (Or.inr ⟨by rfl, rfl⟩) ?_ ?_
          rotate_left
          ·simp only [Act.put, sl1, sl2, sl3, i64_w, i32_w]
           rfl
          refine pure_ (i := 18) (N := some 37) (v := undef) (a' := ?_) #[true, true, true, true, true, true, true, true, true, true, true, true, true, true, true, true, true, true, true, false, false, false, false, false, false, false] rfl rfl (any_of HT_.out (by kernel_rfl)) (fun _ _ _ h => h) (Or.inr ⟨by rfl, rfl⟩) ?_ ?_
          rotate_left
          ·simp only [Act.put, sl1, sl2, sl3, i64_w, i32_w]
           rfl
          refine pure_ (i := 19) (N := some 38) (v := undef) (a' := ?_) #[true, true, true, true, true, true, true, true, true, true, true, true, true, true, true, true, true, true, true, true, false, false, false, false, false, false] rfl rfl (any_of HT_.out (by kernel_rfl)) (fun _ _ _ h => h) (Or.inr ⟨by rfl, rfl⟩) ?_ ?_
          rotate_left
          ·simp only [Act.put, sl1, sl2, sl3, i64_w, i32_w]
           rfl
          refine pure_ (i := 20) (N := some 39) (v := undef) (a' := ?_) #[true, true, true, true, true, true, true, true, true, true, true, true, true, true, true, true, true, true, true, true, true, false, false, false, false, false] rfl rfl (any_of HT_.out (by kernel_rfl)) (fun _ _ _ h => h) (Or.inr ⟨by rfl, rfl⟩) ?_ ?_
          rotate_left
          ·simp only [Act.put, sl1, sl2, sl3, i64_w, i32_w]
           rfl
          refine pure_ (i := 21) (N := some 40) (v := undef) (a' := ?_) #[true, true, true, true, true, true, true, true, true, true, true, true, true, true, true, true, true, true, true, true, true, true, false, false, false, false] rfl rfl (any_of HT_.out (by kernel_rfl)) (fun _ _ _ h => h) (Or.inr ⟨by rfl, rfl⟩) ?_ ?_
          rotate_left
          ·simp only [Act.put, sl1, sl2, sl3, i64_w, i32_w]
           rfl
          refine pure_ (i := 22) (N := some 41) (v := undef) (a' := ?_) #[true, true, true, true, true, true, true, true, true, true, true, true, true, true, true, true, true, true, true, true, true, true, true, false, false, false] rfl rfl (any_of HT_.out (by kernel_rfl)) (fun _ _ _ h => h) (Or.inr ⟨by rfl, rfl⟩) ?_ ?_
          rotate_left
          ·simp only [Act.put, sl1, sl2, sl3, i64_w, i32_w]
           rfl
          refine pure_ (i := 23) (N := some 42) (v := undef) (a' := ?_) #[true, true, true, true, true, true, true, true, true, true, true, true, true, true, true, true, true, true, true, true, true, true, true, true, false, false] rfl rfl (any_of HT_.out (by kernel_rfl)) (fun _ _ _ h => h) (Or.inr ⟨by rfl, rfl⟩) ?_ ?_
          rotate_left
          ·simp only [Act.put, sl1, sl2, sl3, i64_w, i32_w]
           rfl
          refine pure_ (i := 24) (N := some 43) (v := ?_) (a' := ?_) #[true, true, true, true, true, true, true, true, true, true, true, true, true, true, true, true, true, true, true, true, true, true, true, true, true, false] rfl rfl (any_of HT_.out (by kernel_rfl)) (fun _ _ _ h => h) (Or.inl ⟨by rfl, ?_⟩) ?_ ?_
          rotate_left
          ·intro w'
           go_simp
           with_reducible rfl
          rotate_left
          ·simp only [Act.put, sl1, sl2, sl3, i64_w, i32_w]
           rfl
          refine pure_ (i := 25) (N := some 44) (v := ?_) (a' := ?_) #[true, true, true, true, true, true, true, true, true, true, true, true, true, true, true, true, true, true, true, true, true, true, true, true, true, true] rfl rfl (any_of HT_.out (by kernel_rfl)) (fun _ _ _ h => h) (Or.inl ⟨by rfl, ?_⟩) ?_ ?_
          rotate_left
          ·intro w'
           go_simp
           with_reducible rfl
          rotate_left
          ·simp only [Act.put, sl1, sl2, sl3, i64_w, i32_w]
           rfl
          refine done_ (done_of HT_.out (by kernel_rfl)) ?_
          try go_wp2
          have n0_ := Aside0.mk (blk_drew BK192.out)
          have n1_ := Aside0.mk (blk_drew BK193.out)
          have n2_ := Aside0.mk (blk_drew BK194.out)
          have n3_ := Aside0.mk (blk_drew BK199.out)
          have n4_ := Aside0.mk (below_drew1 HB.out)
          clear BK192
          clear BK193
          clear BK194
          clear BK199
          clear HB
          have BK192 := n0_
          have BK193 := n1_
          have BK194 := n2_
          have BK199 := n3_
          have HB := n4_
          clear n0_ n1_ n2_ n3_ n4_
          refine start_ (n := 40) (S := fun w' => w'.cell? ⟨gb194, 0, none⟩ = some (.int .i64 a2_0) ∧ w'.cell? ⟨gb194, 1, none⟩ = some (.int .i64 a2_1) ∧ w'.cell? ⟨gb192, 0, none⟩ = some (.int .i64 a0_0) ∧ w'.cell? ⟨gb192, 1, none⟩ = some (.slice (some ad201) l0_1.length c0_1) ∧ w'.cell? ⟨gb193, 0, none⟩ = some (.int .i64 a1_0) ∧ w'.cell? ⟨gb193, 1, none⟩ = some (.slice A1_1 l1_1.length c1_1)) (ds := []) #[false, false, false, false, false, false, false, false, false, false, false, false, false, false, false, false, false, false, false, false, false, false, false, false, false, false, false, false, false, false, false, false, false, false, false, false, false, false, false, false] (by kernel_rfl) rfl rfl ⟨(blk_cell BK194.out 0).trans rfl, (blk_cell BK194.out 1).trans rfl, (blk_cell BK192.out 0).trans rfl, (blk_cell BK192.out 1).trans rfl, (blk_cell BK193.out 0).trans rfl, (blk_cell BK193.out 1).trans rfl⟩ (fun hHeld => ?_); refine with_tabW carillonlaw12_ViewTells.tab6 carillonlaw12_ViewTells.bits6 (fun HT_ HW_ => ?_)
          generalize w40.drew = w41 at BK192 BK193 BK194 BK199 HB hHeld ⊢
          refine pure_ (i := 0) (N := some 45) (v := ?_) (a' := ?_) #[true, false, false, false, false, false, false, false, false, false, false, false, false, false, false, false, false, false, false, false, false, false, false, false, false, false, false, false, false, false, false, false, false, false, false, false, false, false, false, false] rfl rfl (any_of HT_.out (by kernel_rfl)) (fun _ _ _ h => h) (Or.inl ⟨by rfl, ?_⟩) ?_ ?_
          rotate_left
          ·intro w'
           go_simp
           with_reducible rfl
          rotate_left
          ·simp only [Act.put, sl1, sl2, sl3, i64_w, i32_w]
           rfl
          refine pure_ (i := 1) (N := some 46) (v := ?_) (a' := ?_) #[true, true, false, false, false, false, false, false, false, false, false, false, false, false, false, false, false, false, false, false, false, false, false, false, false, false, false, false, false, false, false, false, false, false, false, false, false, false, false, false] rfl rfl (any_of HT_.out (by kernel_rfl)) (fun _ _ _ h => h) (Or.inl ⟨by rfl, ?_⟩) ?_ ?_
          rotate_left
          ·intro w'
           go_simp
           with_reducible rfl
          rotate_left
          ·simp only [Act.put, sl1, sl2, sl3, i64_w, i32_w]
           rfl
          refine take_ (i := 2) (N := some 47) (v := ?_) (a' := ?_) #[true, true, true, false, false, false, false, false, false, false, false, false, false, false, false, false, false, false, false, false, false, false, false, false, false, false, false, false, false, false, false, false, false, false, false, false, false, false, false, false] rfl rfl (take_ofW HT_.out HW_.out (by kernel_rfl)) (fun _ _ _ h => h) (Or.inl ⟨by rfl, ?_⟩) hHeld ?_ ?_
          rotate_left
          ·rintro w' ⟨s0, s1, s2, s3, s4, s5⟩
           go_simp
           with_reducible rfl
          rotate_left
          ·simp only [Act.put, sl1, sl2, sl3, i64_w, i32_w]
           rfl
          refine take_ (i := 4) (N := some 49) (v := ?_) (a' := ?_) #[true, true, true, false, true, false, false, false, false, false, false, false, false, false, false, false, false, false, false, false, false, false, false, false, false, false, false, false, false, false, false, false, false, false, false, false, false, false, false, false] rfl rfl (take_ofW HT_.out HW_.out (by kernel_rfl)) (fun _ _ _ h => h) (Or.inl ⟨by rfl, ?_⟩) hHeld ?_ ?_
          rotate_left
          ·rintro w' ⟨s0, s1, s2, s3, s4, s5⟩
           go_simp
           with_reducible rfl
          rotate_left
          ·simp only [Act.put, sl1, sl2, sl3, i64_w, i32_w]
           rfl
          refine one_ (i := 3) (N := some 48) #[true, true, true, true, true, false, false, false, false, false, false, false, false, false, false, false, false, false, false, false, false, false, false, false, false, false, false, false, false, false, false, false, false, false, false, false, false, false, false, false] rfl rfl (one_of HT_.out (by kernel_rfl)) (by decide) (fun K hK => ?_)
          refine goes_ Try.func10 (by kernel_rfl) rfl #[.agg #[.int .i64 a2_0, .int .i64 a2_1]] (by rfl) rfl rfl am ?_
          with_reducible refine (view_RightMember.calls a2_0 a2_1 t202 _ A12.out).mono ?_
          rintro e w42 ⟨rfl, hb⟩
          refine ⟨_, rfl, ?_⟩
          have n0_ := Aside0.mk (nb BK192.out hb)
          have n1_ := Aside0.mk (nb BK193.out hb)
          have n2_ := Aside0.mk (nb BK194.out hb)
          have n3_ := Aside0.mk (nb BK199.out hb)
          have n4_ := Aside0.mk (below_step bw hb)
          clear BK192
          clear BK193
          clear BK194
          clear BK199
          clear HB
          have BK192 := n0_
          have BK193 := n1_
          have BK194 := n2_
          have BK199 := n3_
          have HB := n4_
          clear n0_ n1_ n2_ n3_ n4_
          (try clear hb)
          (try clear hb2)
          (try clear hk)
          (try clear hi)
          refine hK.out _ _ ⟨(blk_cell BK194.out 0).trans rfl, (blk_cell BK194.out 1).trans rfl, (blk_cell BK192.out 0).trans rfl, (blk_cell BK192.out 1).trans rfl, (blk_cell BK193.out 0).trans rfl, (blk_cell BK193.out 1).trans rfl⟩ (fun hHeld => ?_)
          clear hK K
          refine norm_ (a' := ?_) ?_ ?_
          rotate_left
          ·show Act.put _ (some 48) _ = _
           simp only [Act.put, sl1, sl2, sl3, i64_w, i32_w]
           rfl
          refine one_ (i := 5) (N := some 50) #[true, true, true, true, true, true, false, false, false, false, false, false, false, false, false, false, false, false, false, false, false, false, false, false, false, false, false, false, false, false, false, false, false, false, false, false, false, false, false, false] rfl rfl (one_of HT_.out (by kernel_rfl)) (by decide) (fun K hK => ?_)
          refine goes_ Try.func11 (by kernel_rfl) rfl #[.agg #[.int .i64 a2_0, .int .i64 a2_1]] (by rfl) rfl rfl am ?_
          with_reducible refine (carillonref12_RightMember.calls a2_0 a2_1 t203 _ A13.out).mono ?_
          rintro e w43 ⟨rfl, hb⟩
          refine ⟨_, rfl, ?_⟩
          have n0_ := Aside0.mk (nb BK192.out hb)
          have n1_ := Aside0.mk (nb BK193.out hb)
          have n2_ := Aside0.mk (nb BK194.out hb)
          have n3_ := Aside0.mk (nb BK199.out hb)
          have n4_ := Aside0.mk (below_step bw hb)
          clear BK192
          clear BK193
          clear BK194
          clear BK199
          clear HB
          have BK192 := n0_
          have BK193 := n1_
          have BK194 := n2_
          have BK199 := n3_
          have HB := n4_
          clear n0_ n1_ n2_ n3_ n4_
          (try clear hb)
          (try clear hb2)
          (try clear hk)
          (try clear hi)
          refine hK.out _ _ ⟨(blk_cell BK194.out 0).trans rfl, (blk_cell BK194.out 1).trans rfl, (blk_cell BK192.out 0).trans rfl, (blk_cell BK192.out 1).trans rfl, (blk_cell BK193.out 0).trans rfl, (blk_cell BK193.out 1).trans rfl⟩ (fun hHeld => ?_)
          clear hK K
          refine norm_ (a' := ?_) ?_ ?_
          rotate_left
          ·show Act.put _ (some 50) _ = _
           simp only [Act.put, sl1, sl2, sl3, i64_w, i32_w]
           rfl
          refine pure_ (i := 6) (N := some 51) (v := ?_) (a' := ?_) #[true, true, true, true, true, true, true, false, false, false, false, false, false, false, false, false, false, false, false, false, false, false, false, false, false, false, false, false, false, false, false, false, false, false, false, false, false, false, false, false] rfl rfl (any_of HT_.out (by kernel_rfl)) (fun _ _ _ h => h) (Or.inl ⟨by rfl, ?_⟩) ?_ ?_
          rotate_left
          ·intro w'
           go_simp
           with_reducible rfl
          rotate_left
          ·simp only [Act.put, sl1, sl2, sl3, i64_w, i32_w]
           rfl
          refine pure_ (i := 7) (N := some 52) (v := ?_) (a' := ?_) #[true, true, true, true, true, true, true, true, false, false, false, false, false, false, false, false, false, false, false, false, false, false, false, false, false, false, false, false, false, false, false, false, false, false, false, false, false, false, false, false] rfl rfl (any_of HT_.out (by kernel_rfl)) (fun _ _ _ h => h) (Or.inl ⟨by rfl, ?_⟩) ?_ ?_
          rotate_left
          ·intro w'
           go_simp
           with_reducible rfl
          rotate_left
          ·simp only [Act.put, sl1, sl2, sl3, i64_w, i32_w]
           rfl
          refine pure_ (i := 8) (N := some 53) (v := ?_) (a' := ?_) #[true, true, true, true, true, true, true, true, true, false, false, false, false, false, false, false, false, false, false, false, false, false, false, false, false, false, false, false, false, false, false, false, false, false, false, false, false, false, false, false] rfl rfl (any_of HT_.out (by kernel_rfl)) (fun _ _ _ h => h) (Or.inl ⟨by rfl, ?_⟩) ?_ ?_
          rotate_left
          ·intro w'
           go_simp
           with_reducible rfl
          rotate_left
          ·simp only [Act.put, sl1, sl2, sl3, i64_w, i32_w]
           rfl
          refine pure_ (i := 11) (N := some 56) (v := ?_) (a' := ?_) #[true, true, true, true, true, true, true, true, true, false, false, true, false, false, false, false, false, false, false, false, false, false, false, false, false, false, false, false, false, false, false, false, false, false, false, false, false, false, false, false] rfl rfl (any_of HT_.out (by kernel_rfl)) (fun _ _ _ h => h) (Or.inl ⟨by rfl, ?_⟩) ?_ ?_
          rotate_left
          ·intro w'
           go_simp
           with_reducible rfl
          rotate_left
          ·simp only [Act.put, sl1, sl2, sl3, i64_w, i32_w]
           rfl
          refine take_ (i := 9) (N := some 54) (v := ?_) (a' := ?_) #[true, true, true, true, true, true, true, true, true, true, false, true, false, false, false, false, false, false, false, false, false, false, false, false, false, false, false, false, false, false, false, false, false, false, false, false, false, false, false, false] rfl rfl (take_ofW HT_.out HW_.out (by kernel_rfl)) (fun _ _ _ h => h) (Or.inl ⟨by rfl, ?_⟩) hHeld ?_ ?_
          rotate_left
          ·rintro w' ⟨s0, s1, s2, s3, s4, s5⟩
           go_simp
           with_reducible rfl
          rotate_left
          ·simp only [Act.put, sl1, sl2, sl3, i64_w, i32_w]
           rfl
          refine one_ (i := 10) (N := some 55) #[true, true, true, true, true, true, true, true, true, true, true, true, false, false, false, false, false, false, false, false, false, false, false, false, false, false, false, false, false, false, false, false, false, false, false, false, false, false, false, false] rfl rfl (one_of HT_.out (by kernel_rfl)) (by decide) (fun K hK => ?_)
          refine goes_ Try.func12 (by kernel_rfl) rfl #[.agg #[.int .i64 a0_0, .slice (some ad201) l0_1.length c0_1]] (by rfl) rfl rfl am ?_
          with_reducible refine (view_Right.calls k a0_0 _ _ l0_1 t204 _ ?side1 ?side2 A15.out).mono ?_
          (case side1 => repeat (first | exact (Kd.C_below HR0_1.out HB.out) | (with_reducible refine Kd.C_alloc ?_ _) | (with_reducible refine Kd.C_drewN ?_ _) | (with_reducible refine Kd.C_drew ?_)))
          (case side2 => exact HC0_1.out)
          rintro e w44 ⟨rfl, hb⟩
          refine ⟨_, rfl, ?_⟩
          have n0_ := Aside0.mk (nb BK192.out hb)
          have n1_ := Aside0.mk (nb BK193.out hb)
          have n2_ := Aside0.mk (nb BK194.out hb)
          have n3_ := Aside0.mk (nb BK199.out hb)
          have n4_ := Aside0.mk (below_step bw hb)
          clear BK192
          clear BK193
          clear BK194
          clear BK199
          clear HB
          have BK192 := n0_
          have BK193 := n1_
          have BK194 := n2_
          have BK199 := n3_
          have HB := n4_
          clear n0_ n1_ n2_ n3_ n4_
          (try clear hb)
          (try clear hb2)
          (try clear hk)
          (try clear hi)
          refine hK.out _ _ ⟨(blk_cell BK194.out 0).trans rfl, (blk_cell BK194.out 1).trans rfl, (blk_cell BK192.out 0).trans rfl, (blk_cell BK192.out 1).trans rfl, (blk_cell BK193.out 0).trans rfl, (blk_cell BK193.out 1).trans rfl⟩ (fun hHeld => ?_)
          clear hK K
          refine norm_ (a' := ?_) ?_ ?_
          rotate_left
          ·show Act.put _ (some 55) _ = _
           simp only [Act.put, sl1, sl2, sl3, i64_w, i32_w]
           rfl
          refine pure_ (i := 12) (N := some 57) (v := ?_) (a' := ?_) #[true, true, true, true, true, true, true, true, true, true, true, true, true, false, false, false, false, false, false, false, false, false, false, false, false, false, false, false, false, false, false, false, false, false, false, false, false, false, false, false] rfl rfl (any_of HT_.out (by kernel_rfl)) (fun _ _ _ h => h) (Or.inl ⟨by rfl, ?_⟩) ?_ ?_
          rotate_left
          ·intro w'
           go_simp
           with_reducible rfl
          rotate_left
          ·simp only [Act.put, sl1, sl2, sl3, i64_w, i32_w]
           rfl
          refine pure_ (i := 13) (N := some 58) (v := ?_) (a' := ?_) #[true, true, true, true, true, true, true, true, true, true, true, true, true, true, false, false, false, false, false, false, false, false, false, false, false, false, false, false, false, false, false, false, false, false, false, false, false, false, false, false] rfl rfl (any_of HT_.out (by kernel_rfl)) (fun _ _ _ h => h) (Or.inl ⟨by rfl, ?_⟩) ?_ ?_
          rotate_left
          ·intro w'
           go_simp
           with_reducible rfl
          rotate_left
          ·simp only [Act.put, sl1, sl2, sl3, i64_w, i32_w]
           rfl
          refine pure_ (i := 14) (N := some 59) (v := ?_) (a' := ?_) #[true, true, true, true, true, true, true, true, true, true, true, true, true, true, true, false, false, false, false, false, false, false, false, false, false, false, false, false, false, false, false, false, false, false, false, false, false, false, false, false] rfl rfl (any_of HT_.out (by kernel_rfl)) (fun _ _ _ h => h) (Or.inl ⟨by rfl, ?_⟩) ?_ ?_
          rotate_left
          ·intro w'
           go_simp
           with_reducible rfl
          rotate_left
          ·simp only [Act.put, sl1, sl2, sl3, i64_w, i32_w]
           rfl
          refine take_ (i := 15) (N := some 60) (v := ?_) (a' := ?_) #[true, true, true, true, true, true, true, true, true, true, true, true, true, true, true, true, false, false, false, false, false, false, false, false, false, false, false, false, false, false, false, false, false, false, false, false, false, false, false, false] rfl rfl (take_ofW HT_.out HW_.out (by kernel_rfl)) (fun _ _ _ h => h) (Or.inl ⟨by rfl, ?_⟩) hHeld ?_ ?_
          rotate_left
          ·rintro w' ⟨s0, s1, s2, s3, s4, s5⟩
           go_simp
           with_reducible rfl
          rotate_left
          ·simp only [Act.put, sl1, sl2, sl3, i64_w, i32_w]
           rfl
          refine take_ (i := 17) (N := some 62) (v := ?_) (a' := ?_) #[true, true, true, true, true, true, true, true, true, true, true, true, true, true, true, true, false, true, false, false, false, false, false, false, false, false, false, false, false, false, false, false, false, false, false, false, false, false, false, false] rfl rfl (take_ofW HT_.out HW_.out (by kernel_rfl)) (fun _ _ _ h => h) (Or.inl ⟨by rfl, ?_⟩) hHeld ?_ ?_
          rotate_left
          ·rintro w' ⟨s0, s1, s2, s3, s4, s5⟩
           go_simp
           with_reducible rfl
          rotate_left
          ·simp only [Act.put, sl1, sl2, sl3, i64_w, i32_w]
           rfl
          refine one_ (i := 16) (N := some 61) #[true, true, true, true, true, true, true, true, true, true, true, true, true, true, true, true, true, true, false, false, false, false, false, false, false, false, false, false, false, false, false, false, false, false, false, false, false, false, false, false] rfl rfl (one_of HT_.out (by kernel_rfl)) (by decide) (fun K hK => ?_)
          refine goes_ Try.func13 (by kernel_rfl) rfl #[.agg #[.int .i64 a0_0, .slice (some ad201) l0_1.length c0_1]] (by rfl) rfl rfl am ?_
          with_reducible refine (view_Majority.calls a0_0 _ _ l0_1 t205 _ ?side1 ?side2 A17.out).mono ?_
          (case side1 => repeat (first | exact (Kd.C_below HR0_1.out HB.out) | (with_reducible refine Kd.C_alloc ?_ _) | (with_reducible refine Kd.C_drewN ?_ _) | (with_reducible refine Kd.C_drew ?_)))
          (case side2 => exact HC0_1.out)
          rintro e w45 ⟨rfl, hb⟩
          refine ⟨_, rfl, ?_⟩
          have n0_ := Aside0.mk (nb BK192.out hb)
          have n1_ := Aside0.mk (nb BK193.out hb)
          have n2_ := Aside0.mk (nb BK194.out hb)
          have n3_ := Aside0.mk (nb BK199.out hb)
          have n4_ := Aside0.mk (below_step bw hb)
          clear BK192
          clear BK193
          clear BK194
          clear BK199
          clear HB
          have BK192 := n0_
          have BK193 := n1_
          have BK194 := n2_
          have BK199 := n3_
          have HB := n4_
          clear n0_ n1_ n2_ n3_ n4_
          (try clear hb)
          (try clear hb2)
          (try clear hk)
          (try clear hi)
          refine hK.out _ _ ⟨(blk_cell BK194.out 0).trans rfl, (blk_cell BK194.out 1).trans rfl, (blk_cell BK192.out 0).trans rfl, (blk_cell BK192.out 1).trans rfl, (blk_cell BK193.out 0).trans rfl, (blk_cell BK193.out 1).trans rfl⟩ (fun hHeld => ?_)
          clear hK K
          refine norm_ (a' := ?_) ?_ ?_
          rotate_left
          ·show Act.put _ (some 61) _ = _
           simp only [Act.put, sl1, sl2, sl3, i64_w, i32_w]
           rfl
          refine one_ (i := 18) (N := some 63) #[true, true, true, true, true, true, true, true, true, true, true, true, true, true, true, true, true, true, true, false, false, false, false, false, false, false, false, false, false, false, false, false, false, false, false, false, false, false, false, false] rfl rfl (one_of HT_.out (by kernel_rfl)) (by decide) (fun K hK => ?_)
          refine goes_ Try.func14 (by kernel_rfl) rfl #[.agg #[.int .i64 a0_0, .slice (some ad201) l0_1.length c0_1]] (by rfl) rfl rfl am ?_
          with_reducible refine (carillonref12_Majority.calls a0_0 _ _ l0_1 t206 _ ?side1 ?side2 A18.out).mono ?_
          (case side1 => repeat (first | exact (Kd.C_below HR0_1.out HB.out) | (with_reducible refine Kd.C_alloc ?_ _) | (with_reducible refine Kd.C_drewN ?_ _) | (with_reducible refine Kd.C_drew ?_)))
          (case side2 => exact HC0_1.out)
          rintro e w46 ⟨rfl, hb⟩
          refine ⟨_, rfl, ?_⟩
          have n0_ := Aside0.mk (nb BK192.out hb)
          have n1_ := Aside0.mk (nb BK193.out hb)
          have n2_ := Aside0.mk (nb BK194.out hb)
          have n3_ := Aside0.mk (nb BK199.out hb)
          have n4_ := Aside0.mk (below_step bw hb)
          clear BK192
          clear BK193
          clear BK194
          clear BK199
          clear HB
          have BK192 := n0_
          have BK193 := n1_
          have BK194 := n2_
          have BK199 := n3_
          have HB := n4_
          clear n0_ n1_ n2_ n3_ n4_
          (try clear hb)
          (try clear hb2)
          (try clear hk)
          (try clear hi)
          refine hK.out _ _ ⟨(blk_cell BK194.out 0).trans rfl, (blk_cell BK194.out 1).trans rfl, (blk_cell BK192.out 0).trans rfl, (blk_cell BK192.out 1).trans rfl, (blk_cell BK193.out 0).trans rfl, (blk_cell BK193.out 1).trans rfl⟩ (fun hHeld => ?_)
          clear hK K
          refine norm_ (a' := ?_) ?_ ?_
          rotate_left
          ·show Act.put _ (some 63) _ = _
           simp only [Act.put, sl1, sl2, sl3, i64_w, i32_w]
           rfl
          refine pure_ (i := 19) (N := some 64) (v := ?_) (a' := ?_) #[true, true, true, true, true, true, true, true, true, true, true, true, true, true, true, true, true, true, true, true, false, false, false, false, false, false, false, false, false, false, false, false, false, false, false, false, false, false, false, false] rfl rfl (any_of HT_.out (by kernel_rfl)) (fun _ _ _ h => h) (Or.inl ⟨by rfl, ?_⟩) ?_ ?_
          rotate_left
          ·intro w'
           go_simp
           with_reducible rfl
          rotate_left
          ·simp only [Act.put, sl1, sl2, sl3, i64_w, i32_w]
           rfl
          refine pure_ (i := 20) (N := some 65) (v := ?_) (a' := ?_) #[true, true, true, true, true, true, true, true, true, true, true, true, true, true, true, true, true, true, true, true, true, false, false, false, false, false, false, false, false, false, false, false, false, false, false, false, false, false, false, false] rfl rfl (any_of HT_.out (by kernel_rfl)) (fun _ _ _ h => h) (Or.inl ⟨by rfl, ?_⟩) ?_ ?_
          rotate_left
          ·intro w'
           go_simp
           with_reducible rfl
          rotate_left
          ·simp only [Act.put, sl1, sl2, sl3, i64_w, i32_w]
           rfl
          refine pure_ (i := 21) (N := some 66) (v := ?_) (a' := ?_) #[true, true, true, true, true, true, true, true, true, true, true, true, true, true, true, true, true, true, true, true, true, true, false, false, false, false, false, false, false, false, false, false, false, false, false, false, false, false, false, false] rfl rfl (any_of HT_.out (by kernel_rfl)) (fun _ _ _ h => h) (Or.inl ⟨by rfl, ?_⟩) ?_ ?_
          rotate_left
          ·intro w'
           go_simp
           with_reducible rfl
          rotate_left
          ·simp only [Act.put, sl1, sl2, sl3, i64_w, i32_w]
           rfl
          refine take_ (i := 22) (N := some 67) (v := ?_) (a' := ?_) #[true, true, true, true, true, true, true, true, true, true, true, true, true, true, true, true, true, true, true, true, true, true, true, false, false, false, false, false, false, false, false, false, false, false, false, false, false, false, false, false] rfl rfl (take_ofW HT_.out HW_.out (by kernel_rfl)) (fun _ _ _ h => h) (Or.inl ⟨by rfl, ?_⟩) hHeld ?_ ?_
          rotate_left
          ·rintro w' ⟨s0, s1, s2, s3, s4, s5⟩
           go_simp
           with_reducible rfl
          rotate_left
          ·simp only [Act.put, sl1, sl2, sl3, i64_w, i32_w]
           rfl
          refine take_ (i := 23) (N := some 68) (v := ?_) (a' := ?_) #[true, true, true, true, true, true, true, true, true, true, true, true, true, true, true, true, true, true, true, true, true, true, true, true, false, false, false, false, false, false, false, false, false, false, false, false, false, false, false, false] rfl rfl (take_ofW HT_.out HW_.out (by kernel_rfl)) (fun _ _ _ h => h) (Or.inl ⟨by rfl, ?_⟩) hHeld ?_ ?_
          rotate_left
          ·rintro w' ⟨s0, s1, s2, s3, s4, s5⟩
           go_simp
           with_reducible rfl
          rotate_left
          ·simp only [Act.put, sl1, sl2, sl3, i64_w, i32_w]
           rfl
          refine take_ (i := 25) (N := some 70) (v := ?_) (a' := ?_) #[true, true, true, true, true, true, true, true, true, true, true, true, true, true, true, true, true, true, true, true, true, true, true, true, false, true, false, false, false, false, false, false, false, false, false, false, false, false, false, false] rfl rfl (take_ofW HT_.out HW_.out (by kernel_rfl)) (fun _ _ _ h => h) (Or.inl ⟨by rfl, ?_⟩) hHeld ?_ ?_
          rotate_left
          ·rintro w' ⟨s0, s1, s2, s3, s4, s5⟩
           go_simp
           with_reducible rfl
          rotate_left
          ·simp only [Act.put, sl1, sl2, sl3, i64_w, i32_w]
           rfl
          refine take_ (i := 26) (N := some 71) (v := ?_) (a' := ?_) #[true, true, true, true, true, true, true, true, true, true, true, true, true, true, true, true, true, true, true, true, true, true, true, true, false, true, true, false, false, false, false, false, false, false, false, false, false, false, false, false] rfl rfl (take_ofW HT_.out HW_.out (by kernel_rfl)) (fun _ _ _ h => h) (Or.inl ⟨by rfl, ?_⟩) hHeld ?_ ?_
          rotate_left
          ·rintro w' ⟨s0, s1, s2, s3, s4, s5⟩
           go_simp
           with_reducible rfl
          rotate_left
          ·simp only [Act.put, sl1, sl2, sl3, i64_w, i32_w]
           rfl
          refine one_ (i := 24) (N := some 69) #[true, true, true, true, true, true, true, true, true, true, true, true, true, true, true, true, true, true, true, true, true, true, true, true, true, true, true, false, false, false, false, false, false, false, false, false, false, false, false, false] rfl rfl (one_of HT_.out (by kernel_rfl)) (by decide) (fun K hK => ?_)
          refine goes_ Try.func15 (by kernel_rfl) rfl #[.agg #[.int .i64 a0_0, .slice (some ad201) l0_1.length c0_1], .agg #[.int .i64 a2_0, .int .i64 a2_1]] (by rfl) rfl rfl am ?_
          with_reducible refine (view_Has.calls k a0_0 _ _ l0_1 a2_0 a2_1 t207 _ ?side1 ?side2 A20.out).mono ?_
          (case side1 => repeat (first | exact (Kd.C_below HR0_1.out HB.out) | (with_reducible refine Kd.C_alloc ?_ _) | (with_reducible refine Kd.C_drewN ?_ _) | (with_reducible refine Kd.C_drew ?_)))
          (case side2 => exact HC0_1.out)
          rintro e w47 ⟨rfl, hb⟩
          refine ⟨_, rfl, ?_⟩
          have n0_ := Aside0.mk (nb BK192.out hb)
          have n1_ := Aside0.mk (nb BK193.out hb)
          have n2_ := Aside0.mk (nb BK194.out hb)
          have n3_ := Aside0.mk (nb BK199.out hb)
          have n4_ := Aside0.mk (below_step bw hb)
          clear BK192
          clear BK193
          clear BK194
          clear BK199
          clear HB
          have BK192 := n0_
          have BK193 := n1_
          have BK194 := n2_
          have BK199 := n3_
          have HB := n4_
          clear n0_ n1_ n2_ n3_ n4_
          (try clear hb)
          (try clear hb2)
          (try clear hk)
          (try clear hi)
          refine hK.out _ _ ⟨(blk_cell BK194.out 0).trans rfl, (blk_cell BK194.out 1).trans rfl, (blk_cell BK192.out 0).trans rfl, (blk_cell BK192.out 1).trans rfl, (blk_cell BK193.out 0).trans rfl, (blk_cell BK193.out 1).trans rfl⟩ (fun hHeld => ?_)
          clear hK K
          refine norm_ (a' := ?_) ?_ ?_
          rotate_left
          ·show Act.put _ (some 69) _ = _
           simp only [Act.put, sl1, sl2, sl3, i64_w, i32_w]
           rfl
          refine one_ (i := 27) (N := some 72) #[true, true, true, true, true, true, true, true, true, true, true, true, true, true, true, true, true, true, true, true, true, true, true, true, true, true, true, true, false, false, false, false, false, false, false, false, false, false, false, false] rfl rfl (one_of HT_.out (by kernel_rfl)) (by decide) (fun K hK => ?_)
          refine goes_ Try.func16 (by kernel_rfl) rfl #[.agg #[.int .i64 a0_0, .slice (some ad201) l0_1.length c0_1], .agg #[.int .i64 a2_0, .int .i64 a2_1]] (by rfl) rfl rfl am ?_
          with_reducible refine (carillonref12_Has.calls k a0_0 _ _ l0_1 a2_0 a2_1 t208 _ ?side1 ?side2 A21.out).mono ?_
          (case side1 => repeat (first | exact (Kd.C_below HR0_1.out HB.out) | (with_reducible refine Kd.C_alloc ?_ _) | (with_reducible refine Kd.C_drewN ?_ _) | (with_reducible refine Kd.C_drew ?_)))
          (case side2 => exact HC0_1.out)
          rintro e w48 ⟨rfl, hb⟩
          refine ⟨_, rfl, ?_⟩
          have n0_ := Aside0.mk (nb BK192.out hb)
          have n1_ := Aside0.mk (nb BK193.out hb)
          have n2_ := Aside0.mk (nb BK194.out hb)
          have n3_ := Aside0.mk (nb BK199.out hb)
          have n4_ := Aside0.mk (below_step bw hb)
          clear BK192
          clear BK193
          clear BK194
          clear BK199
          clear HB
          have BK192 := n0_
          have BK193 := n1_
          have BK194 := n2_
          have BK199 := n3_
          have HB := n4_
          clear n0_ n1_ n2_ n3_ n4_
          (try clear hb)
          (try clear hb2)
          (try clear hk)
          (try clear hi)
          refine hK.out _ _ ⟨(blk_cell BK194.out 0).trans rfl, (blk_cell BK194.out 1).trans rfl, (blk_cell BK192.out 0).trans rfl, (blk_cell BK192.out 1).trans rfl, (blk_cell BK193.out 0).trans rfl, (blk_cell BK193.out 1).trans rfl⟩ (fun hHeld => ?_)
          clear hK K
          refine norm_ (a' := ?_) ?_ ?_
          rotate_left
          ·show Act.put _ (some 72) _ = _
           simp only [Act.put, sl1, sl2, sl3, i64_w, i32_w]
           rfl
          refine pure_ (i := 28) (N := some 73) (v := ?_) (a' := ?_) #[true, true, true, true, true, true, true, true, true, true, true, true, true, true, true, true, true, true, true, true, true, true, true, true, true, true, true, true, true, false, false, false, false, false, false, false, false, false, false, false] rfl rfl (any_of HT_.out (by kernel_rfl)) (fun _ _ _ h => h) (Or.inl ⟨by rfl, ?_⟩) ?_ ?_
          rotate_left
          ·intro w'
           go_simp
           with_reducible rfl
          rotate_left
          ·simp only [Act.put, sl1, sl2, sl3, i64_w, i32_w]
           rfl
          refine pure_ (i := 29) (N := some 74) (v := ?_) (a' := ?_) #[true, true, true, true, true, true, true, true, true, true, true, true, true, true, true, true, true, true, true, true, true, true, true, true, true, true, true, true, true, true, false, false, false, false, false, false, false, false, false, false] rfl rfl (any_of HT_.out (by kernel_rfl)) (fun _ _ _ h => h) (Or.inl ⟨by rfl, ?_⟩) ?_ ?_
          rotate_left
          ·intro w'
           go_simp
           with_reducible rfl
          rotate_left
          ·simp only [Act.put, sl1, sl2, sl3, i64_w, i32_w]
           rfl
          refine pure_ (i := 30) (N := some 75) (v := ?_) (a' := ?_) #[true, true, true, true, true, true, true, true, true, true, true, true, true, true, true, true, true, true, true, true, true, true, true, true, true, true, true, true, true, true, true, false, false, false, false, false, false, false, false, false] rfl rfl (any_of HT_.out (by kernel_rfl)) (fun _ _ _ h => h) (Or.inl ⟨by rfl, ?_⟩) ?_ ?_
          rotate_left
          ·intro w'
           go_simp
           with_reducible rfl
          rotate_left
          ·simp only [Act.put, sl1, sl2, sl3, i64_w, i32_w]
           rfl
          refine take_ (i := 31) (N := some 76) (v := ?_) (a' := ?_) #[true, true, true, true, true, true, true, true, true, true, true, true, true, true, true, true, true, true, true, true, true, true, true, true, true, true, true, true, true, true, true, true, false, false, false, false, false, false, false, false] rfl rfl (take_ofW HT_.out HW_.out (by kernel_rfl)) (fun _ _ _ h => h) (Or.inl ⟨by rfl, ?_⟩) hHeld ?_ ?_
          rotate_left
          ·rintro w' ⟨s0, s1, s2, s3, s4, s5⟩
           go_simp
           with_reducible rfl
          rotate_left
          ·simp only [Act.put, sl1, sl2, sl3, i64_w, i32_w]
           rfl
          refine take_ (i := 32) (N := some 77) (v := ?_) (a' := ?_) #[true, true, true, true, true, true, true, true, true, true, true, true, true, true, true, true, true, true, true, true, true, true, true, true, true, true, true, true, true, true, true, true, true, false, false, false, false, false, false, false] rfl rfl (take_ofW HT_.out HW_.out (by kernel_rfl)) (fun _ _ _ h => h) (Or.inl ⟨by rfl, ?_⟩) hHeld ?_ ?_
          rotate_left
          ·rintro w' ⟨s0, s1, s2, s3, s4, s5⟩
           go_simp
           with_reducible rfl
          rotate_left
          ·simp only [Act.put, sl1, sl2, sl3, i64_w, i32_w]
           rfl
          refine take_ (i := 34) (N := some 79) (v := ?_) (a' := ?_) #[true, true, true, true, true, true, true, true, true, true, true, true, true, true, true, true, true, true, true, true, true, true, true, true, true, true, true, true, true, true, true, true, true, false, true, false, false, false, false, false] rfl rfl (take_ofW HT_.out HW_.out (by kernel_rfl)) (fun _ _ _ h => h) (Or.inl ⟨by rfl, ?_⟩) hHeld ?_ ?_
          rotate_left
          ·rintro w' ⟨s0, s1, s2, s3, s4, s5⟩
           go_simp
           with_reducible rfl
          rotate_left
          ·simp only [Act.put, sl1, sl2, sl3, i64_w, i32_w]
           rfl
          refine take_ (i := 35) (N := some 80) (v := ?_) (a' := ?_) #[true, true, true, true, true, true, true, true, true, true, true, true, true, true, true, true, true, true, true, true, true, true, true, true, true, true, true, true, true, true, true, true, true, false, true, true, false, false, false, false] rfl rfl (take_ofW HT_.out HW_.out (by kernel_rfl)) (fun _ _ _ h => h) (Or.inl ⟨by rfl, ?_⟩) hHeld ?_ ?_
          rotate_left
          ·rintro w' ⟨s0, s1, s2, s3, s4, s5⟩
           go_simp
           with_reducible rfl
          rotate_left
          ·simp only [Act.put, sl1, sl2, sl3, i64_w, i32_w]
           rfl
          refine one_ (i := 33) (N := some 78) #[true, true, true, true, true, true, true, true, true, true, true, true, true, true, true, true, true, true, true, true, true, true, true, true, true, true, true, true, true, true, true, true, true, true, true, true, false, false, false, false] rfl rfl (one_of HT_.out (by kernel_rfl)) (by decide) (fun K hK => ?_)
          refine goes_ Try.func17 (by kernel_rfl) rfl #[.agg #[.int .i64 a0_0, .slice (some ad201) l0_1.length c0_1], .agg #[.int .i64 a1_0, .slice A1_1 l1_1.length c1_1]] (by rfl) rfl rfl am ?_
          with_reducible refine (view_Common.calls a0_0 _ _ l0_1 a1_0 _ _ l1_1 t209 _ ?side1 ?side2 ?side3 ?side4 A23.out).mono ?_
          (case side1 => repeat (first | exact (Kd.C_below HR0_1.out HB.out) | (with_reducible refine Kd.C_alloc ?_ _) | (with_reducible refine Kd.C_drewN ?_ _) | (with_reducible refine Kd.C_drew ?_)))
          (case side2 => exact HC0_1.out)
          (case side3 => repeat (first | exact (Kd.C_below HR1_1.out HB.out) | (with_reducible refine Kd.C_alloc ?_ _) | (with_reducible refine Kd.C_drewN ?_ _) | (with_reducible refine Kd.C_drew ?_)))
          (case side4 => exact HC1_1.out)
          rintro e w49 ⟨rfl, hb⟩
          refine ⟨_, rfl, ?_⟩
          have n0_ := Aside0.mk (nb BK192.out hb)
          have n1_ := Aside0.mk (nb BK193.out hb)
          have n2_ := Aside0.mk (nb BK194.out hb)
          have n3_ := Aside0.mk (nb BK199.out hb)
          have n4_ := Aside0.mk (below_step bw hb)
          clear BK192
          clear BK193
          clear BK194
          clear BK199
          clear HB
          have BK192 := n0_
          have BK193 := n1_
          have BK194 := n2_
          have BK199 := n3_
          have HB := n4_
          clear n0_ n1_ n2_ n3_ n4_
          (try clear hb)
          (try clear hb2)
          (try clear hk)
          (try clear hi)
          refine hK.out _ _ ⟨(blk_cell BK194.out 0).trans rfl, (blk_cell BK194.out 1).trans rfl, (blk_cell BK192.out 0).trans rfl, (blk_cell BK192.out 1).trans rfl, (blk_cell BK193.out 0).trans rfl, (blk_cell BK193.out 1).trans rfl⟩ (fun hHeld => ?_)
          clear hK K
          refine norm_ (a' := ?_) ?_ ?_
          rotate_left
          ·show Act.put _ (some 78) _ = _
           simp only [Act.put, sl1, sl2, sl3, i64_w, i32_w]
           rfl
          refine one_ (i := 36) (N := some 81) #[true, true, true, true, true, true, true, true, true, true, true, true, true, true, true, true, true, true, true, true, true, true, true, true, true, true, true, true, true, true, true, true, true, true, true, true, true, false, false, false] rfl rfl (one_of HT_.out (by kernel_rfl)) (by decide) (fun K hK => ?_)
          refine goes_ Try.func18 (by kernel_rfl) rfl #[.agg #[.int .i64 a0_0, .slice (some ad201) l0_1.length c0_1], .agg #[.int .i64 a1_0, .slice A1_1 l1_1.length c1_1]] (by rfl) rfl rfl am ?_
          with_reducible refine (carillonref12_Common.calls k a0_0 _ _ l0_1 a1_0 _ _ l1_1 t210 _ ?side1 ?side2 ?side3 ?side4 A24.out).mono ?_
          (case side1 => repeat (first | exact (Kd.C_below HR0_1.out HB.out) | (with_reducible refine Kd.C_alloc ?_ _) | (with_reducible refine Kd.C_drewN ?_ _) | (with_reducible refine Kd.C_drew ?_)))
          (case side2 => exact HC0_1.out)
          (case side3 => repeat (first | exact (Kd.C_below HR1_1.out HB.out) | (with_reducible refine Kd.C_alloc ?_ _) | (with_reducible refine Kd.C_drewN ?_ _) | (with_reducible refine Kd.C_drew ?_)))
          (case side4 => exact HC1_1.out)
          rintro e w50 ⟨rfl, hb⟩
          refine ⟨_, rfl, ?_⟩
          have n0_ := Aside0.mk (nb BK192.out hb)
          have n1_ := Aside0.mk (nb BK193.out hb)
          have n2_ := Aside0.mk (nb BK194.out hb)
          have n3_ := Aside0.mk (nb BK199.out hb)
          have n4_ := Aside0.mk (below_step bw hb)
          clear BK192
          clear BK193
          clear BK194
          clear BK199
          clear HB
          have BK192 := n0_
          have BK193 := n1_
          have BK194 := n2_
          have BK199 := n3_
          have HB := n4_
          clear n0_ n1_ n2_ n3_ n4_
          (try clear hb)
          (try clear hb2)
          (try clear hk)
          (try clear hi)
          refine hK.out _ _ ⟨(blk_cell BK194.out 0).trans rfl, (blk_cell BK194.out 1).trans rfl, (blk_cell BK192.out 0).trans rfl, (blk_cell BK192.out 1).trans rfl, (blk_cell BK193.out 0).trans rfl, (blk_cell BK193.out 1).trans rfl⟩ (fun hHeld => ?_)
          clear hK K
          refine norm_ (a' := ?_) ?_ ?_
          rotate_left
          ·show Act.put _ (some 81) _ = _
           simp only [Act.put, sl1, sl2, sl3, i64_w, i32_w]
           rfl
          refine pure_ (i := 37) (N := some 82) (v := ?_) (a' := ?_) #[true, true, true, true, true, true, true, true, true, true, true, true, true, true, true, true, true, true, true, true, true, true, true, true, true, true, true, true, true, true, true, true, true, true, true, true, true, true, false, false] rfl rfl (any_of HT_.out (by kernel_rfl)) (fun _ _ _ h => h) (Or.inl ⟨by rfl, ?_⟩) ?_ ?_
          rotate_left
          ·intro w'
           go_simp
           with_reducible rfl
          rotate_left
          ·simp only [Act.put, sl1, sl2, sl3, i64_w, i32_w]
           rfl
          refine pure_ (i := 38) (N := some 83) (v := ?_) (a' := ?_) #[true, true, true, true, true, true, true, true, true, true, true, true, true, true, true, true, true, true, true, true, true, true, true, true, true, true, true, true, true, true, true, true, true, true, true, true, true, true, true, false] rfl rfl (any_of HT_.out (by kernel_rfl)) (fun _ _ _ h => h) (Or.inl ⟨by rfl, ?_⟩) ?_ ?_
          rotate_left
          ·intro w'
           go_simp
           with_reducible rfl
          rotate_left
          ·simp only [Act.put, sl1, sl2, sl3, i64_w, i32_w]
           rfl
          refine pure_ (i := 39) (N := some 6) (v := ?_) (a' := ?_) #[true, true, true, true, true, true, true, true, true, true, true, true, true, true, true, true, true, true, true, true, true, true, true, true, true, true, true, true, true, true, true, true, true, true, true, true, true, true, true, true] rfl rfl (any_of HT_.out (by kernel_rfl)) (fun _ _ _ h => h) (Or.inl ⟨by rfl, ?_⟩) ?_ ?_
          rotate_left
          ·intro w'
           go_simp
           with_reducible rfl
          rotate_left
          ·simp only [Act.put, sl1, sl2, sl3, i64_w, i32_w]
           rfl
          refine done_ (done_of HT_.out (by kernel_rfl)) ?_
          try go_wp2
          go_ret
          exact ⟨er, bw⟩
         ·rw [if_neg c22] at H
          have c22b0 : (t207 == t208) = false := by simpa using c22
          (try (have c22b1 : decide (t207 = t208) = false := by simpa using c22))
          (try (have c22b2 : (t207 == t208) = false := by simpa using c22))
          (try (have c22b3 : ¬ (t207 = t208) := by simpa using c22))
          clear c22
          exact absurd ((Option.some.inj H).trans hr_.out) (by decide)
        ·rw [if_neg c19] at H
         have c19b0 : (t205 == t206) = false := beq_eq_false_iff_ne.mpr c19
         have c19b1 : (t205 != t206) = true := bne_iff_ne.mpr c19
         exact absurd ((Option.some.inj H).trans hr_.out) (by decide)
       ·rw [if_neg c16] at H
        have c16b0 : (t204 == true) = false := by simpa using c16
        (try (have c16b1 : decide (t204 = true) = false := by simpa using c16))
        (try (have c16b2 : (t204 == true) = false := by simpa using c16))
        (try (have c16b3 : ¬ (t204 = true) := by simpa using c16))
        clear c16
        exact absurd ((Option.some.inj H).trans hr_.out) (by decide)
      ·rw [if_neg c14] at H
       have c14b0 : (t202 == t203) = false := by simpa using c14
       (try (have c14b1 : decide (t202 = t203) = false := by simpa using c14))
       (try (have c14b2 : (t202 == t203) = false := by simpa using c14))
       (try (have c14b3 : ¬ (t202 = t203) := by simpa using c14))
       clear c14
       exact absurd ((Option.some.inj H).trans hr_.out) (by decide)
     ·replace c11 := Bool.eq_false_iff.mpr c11
      subst c11
      have H1 : (some false) = some r := by rw [if_neg (show ¬ (false = true) by decide)] at H; exact H
      clear H
      have H := H1
      clear H1
      exact absurd ((Option.some.inj H).trans hr_.out) (by decide)
   ·rw [if_neg c9] at H
    exact absurd H (by simp)
  ·rw [if_neg c8] at H
   have c8b0 : (t198 == 0) = false := beq_eq_false_iff_ne.mpr c8
   have c8b1 : (t198 != 0) = true := bne_iff_ne.mpr c8
   exact absurd ((Option.some.inj H).trans hr_.out) (by decide)
 ·replace c7 := Bool.eq_false_iff.mpr c7
  subst c7
  have H1 : (if t198 = 1 then (if (!(t196 == 0) || (!(t197 == 0))) = true then (some false) else (if t195 = true then ((view_RightMember.f a2_0 a2_1).bind fun t211 => ((carillonref12_RightMember.f a2_0 a2_1).bind fun t212 => (if (t211 == t212) = true then ((view_Right.f k a0_0 l0_1).bind fun t213 => (if (t213 == false) = true then ((view_Majority.f a0_0 l0_1).bind fun t214 => ((carillonref12_Majority.f a0_0 l0_1).bind fun t215 => (if t214 = t215 then ((view_Has.f k a0_0 l0_1 a2_0 a2_1).bind fun t216 => ((carillonref12_Has.f k a0_0 l0_1 a2_0 a2_1).bind fun t217 => (if (t216 == t217) = true then ((view_Common.f a0_0 l0_1 a1_0 l1_1).bind fun t218 => ((carillonref12_Common.f k a0_0 l0_1 a1_0 l1_1).bind fun t219 => (some (t218 == t219)))) else (some false)))) else (some false)))) else (some false))) else (some false)))) else (some false))) else (some false)) = some r := by rw [if_neg (show ¬ (false = true) by decide)] at H; exact H
  clear H
  have H := H1
  clear H1
  by_cases c51 : t198 = 1
  ·rw [if_pos c51] at H
   have c51b0 : (t198 == 1) = true := beq_iff_eq.mpr c51
   have c51b1 : (t198 != 1) = false := bne_eq_false_iff_eq.mpr c51
   clear c51
   by_cases c52 : (!(t196 == 0) || (!(t197 == 0))) = true
   ·rw [if_pos c52] at H
    have c52b0 : (!(t196 == 0) || (!(t197 == 0))) = true := c52
    (try (have c52b1 : (t196 == 0 && (t197 == 0)) = false := by have e_ : (t196 == 0 && (t197 == 0)) = (!(!(t196 == 0) || (!(t197 == 0)))) := (by simp only [Bool.not_or, Bool.not_and, Bool.not_not]); rw [e_]; first | (simp only [c52, Bool.not_true]; done) | (simp only [Bool.eq_false_iff.mpr c52, Bool.not_false]; done)))
    clear c52
    exact absurd ((Option.some.inj H).trans hr_.out) (by decide)
   ·rw [if_neg c52] at H
    have c52b0 : (!(t196 == 0) || (!(t197 == 0))) = false := by simpa using c52
    (try (have c52b1 : (t196 == 0 && (t197 == 0)) = true := by have e_ : (t196 == 0 && (t197 == 0)) = (!(!(t196 == 0) || (!(t197 == 0)))) := (by simp only [Bool.not_or, Bool.not_and, Bool.not_not]); rw [e_]; first | (simp only [c52, Bool.not_true]; done) | (simp only [Bool.eq_false_iff.mpr c52, Bool.not_false]; done)))
    clear c52
    by_cases c53 : t195 = true
    ·subst c53
     have H1 : ((view_RightMember.f a2_0 a2_1).bind fun t211 => ((carillonref12_RightMember.f a2_0 a2_1).bind fun t212 => (if (t211 == t212) = true then ((view_Right.f k a0_0 l0_1).bind fun t213 => (if (t213 == false) = true then ((view_Majority.f a0_0 l0_1).bind fun t214 => ((carillonref12_Majority.f a0_0 l0_1).bind fun t215 => (if t214 = t215 then ((view_Has.f k a0_0 l0_1 a2_0 a2_1).bind fun t216 => ((carillonref12_Has.f k a0_0 l0_1 a2_0 a2_1).bind fun t217 => (if (t216 == t217) = true then ((view_Common.f a0_0 l0_1 a1_0 l1_1).bind fun t218 => ((carillonref12_Common.f k a0_0 l0_1 a1_0 l1_1).bind fun t219 => (some (t218 == t219)))) else (some false)))) else (some false)))) else (some false))) else (some false)))) = some r := by rw [if_pos rfl] at H; exact H
     clear H
     have H := H1
     clear H1
     replace H := Option.bind_eq_some_iff.mp H
     obtain ⟨t211, A540, H⟩ := H
     replace H : ((carillonref12_RightMember.f a2_0 a2_1).bind fun t212 => (if (t211 == t212) = true then ((view_Right.f k a0_0 l0_1).bind fun t213 => (if (t213 == false) = true then ((view_Majority.f a0_0 l0_1).bind fun t214 => ((carillonref12_Majority.f a0_0 l0_1).bind fun t215 => (if t214 = t215 then ((view_Has.f k a0_0 l0_1 a2_0 a2_1).bind fun t216 => ((carillonref12_Has.f k a0_0 l0_1 a2_0 a2_1).bind fun t217 => (if (t216 == t217) = true then ((view_Common.f a0_0 l0_1 a1_0 l1_1).bind fun t218 => ((carillonref12_Common.f k a0_0 l0_1 a1_0 l1_1).bind fun t219 => (some (t218 == t219)))) else (some false)))) else (some false)))) else (some false))) else (some false))) = some r := H
     have A54 := Aside0.mk A540
     clear A540
     replace H := Option.bind_eq_some_iff.mp H
     obtain ⟨t212, A550, H⟩ := H
     replace H : (if (t211 == t212) = true then ((view_Right.f k a0_0 l0_1).bind fun t213 => (if (t213 == false) = true then ((view_Majority.f a0_0 l0_1).bind fun t214 => ((carillonref12_Majority.f a0_0 l0_1).bind fun t215 => (if t214 = t215 then ((view_Has.f k a0_0 l0_1 a2_0 a2_1).bind fun t216 => ((carillonref12_Has.f k a0_0 l0_1 a2_0 a2_1).bind fun t217 => (if (t216 == t217) = true then ((view_Common.f a0_0 l0_1 a1_0 l1_1).bind fun t218 => ((carillonref12_Common.f k a0_0 l0_1 a1_0 l1_1).bind fun t219 => (some (t218 == t219)))) else (some false)))) else (some false)))) else (some false))) else (some false)) = some r := H
     have A55 := Aside0.mk A550
     clear A550
     by_cases c56 : (t211 == t212) = true
     ·rw [if_pos c56] at H
      have c56b0 : (t211 == t212) = true := c56
      (try (have c56b1 : decide (t211 = t212) = true := by simpa using c56))
      (try (have c56b2 : (t211 == t212) = true := by simpa using c56))
      clear c56
      replace H := Option.bind_eq_some_iff.mp H
      obtain ⟨t213, A570, H⟩ := H
      replace H : (if (t213 == false) = true then ((view_Majority.f a0_0 l0_1).bind fun t214 => ((carillonref12_Majority.f a0_0 l0_1).bind fun t215 => (if t214 = t215 then ((view_Has.f k a0_0 l0_1 a2_0 a2_1).bind fun t216 => ((carillonref12_Has.f k a0_0 l0_1 a2_0 a2_1).bind fun t217 => (if (t216 == t217) = true then ((view_Common.f a0_0 l0_1 a1_0 l1_1).bind fun t218 => ((carillonref12_Common.f k a0_0 l0_1 a1_0 l1_1).bind fun t219 => (some (t218 == t219)))) else (some false)))) else (some false)))) else (some false)) = some r := H
      have A57 := Aside0.mk A570
      clear A570
      by_cases c58 : (t213 == false) = true
      ·rw [if_pos c58] at H
       have c58b0 : (t213 == false) = true := c58
       (try (have c58b1 : decide (t213 = false) = true := by simpa using c58))
       (try (have c58b2 : (t213 == false) = true := by simpa using c58))
       clear c58
       replace H := Option.bind_eq_some_iff.mp H
       obtain ⟨t214, A590, H⟩ := H
       replace H : ((carillonref12_Majority.f a0_0 l0_1).bind fun t215 => (if t214 = t215 then ((view_Has.f k a0_0 l0_1 a2_0 a2_1).bind fun t216 => ((carillonref12_Has.f k a0_0 l0_1 a2_0 a2_1).bind fun t217 => (if (t216 == t217) = true then ((view_Common.f a0_0 l0_1 a1_0 l1_1).bind fun t218 => ((carillonref12_Common.f k a0_0 l0_1 a1_0 l1_1).bind fun t219 => (some (t218 == t219)))) else (some false)))) else (some false))) = some r := H
       have A59 := Aside0.mk A590
       clear A590
       replace H := Option.bind_eq_some_iff.mp H
       obtain ⟨t215, A600, H⟩ := H
       replace H : (if t214 = t215 then ((view_Has.f k a0_0 l0_1 a2_0 a2_1).bind fun t216 => ((carillonref12_Has.f k a0_0 l0_1 a2_0 a2_1).bind fun t217 => (if (t216 == t217) = true then ((view_Common.f a0_0 l0_1 a1_0 l1_1).bind fun t218 => ((carillonref12_Common.f k a0_0 l0_1 a1_0 l1_1).bind fun t219 => (some (t218 == t219)))) else (some false)))) else (some false)) = some r := H
       have A60 := Aside0.mk A600
       clear A600
       by_cases c61 : t214 = t215
       ·rw [if_pos c61] at H
        have c61b0 : (t214 == t215) = true := beq_iff_eq.mpr c61
        have c61b1 : (t214 != t215) = false := bne_eq_false_iff_eq.mpr c61
        clear c61
        replace H := Option.bind_eq_some_iff.mp H
        obtain ⟨t216, A620, H⟩ := H
        replace H : ((carillonref12_Has.f k a0_0 l0_1 a2_0 a2_1).bind fun t217 => (if (t216 == t217) = true then ((view_Common.f a0_0 l0_1 a1_0 l1_1).bind fun t218 => ((carillonref12_Common.f k a0_0 l0_1 a1_0 l1_1).bind fun t219 => (some (t218 == t219)))) else (some false))) = some r := H
        have A62 := Aside0.mk A620
        clear A620
        replace H := Option.bind_eq_some_iff.mp H
        obtain ⟨t217, A630, H⟩ := H
        replace H : (if (t216 == t217) = true then ((view_Common.f a0_0 l0_1 a1_0 l1_1).bind fun t218 => ((carillonref12_Common.f k a0_0 l0_1 a1_0 l1_1).bind fun t219 => (some (t218 == t219)))) else (some false)) = some r := H
        have A63 := Aside0.mk A630
        clear A630
        by_cases c64 : (t216 == t217) = true
        ·rw [if_pos c64] at H
         have c64b0 : (t216 == t217) = true := c64
         (try (have c64b1 : decide (t216 = t217) = true := by simpa using c64))
         (try (have c64b2 : (t216 == t217) = true := by simpa using c64))
         clear c64
         replace H := Option.bind_eq_some_iff.mp H
         obtain ⟨t218, A650, H⟩ := H
         replace H : ((carillonref12_Common.f k a0_0 l0_1 a1_0 l1_1).bind fun t219 => (some (t218 == t219))) = some r := H
         have A65 := Aside0.mk A650
         clear A650
         replace H := Option.bind_eq_some_iff.mp H
         obtain ⟨t219, A660, H⟩ := H
         replace H : (some (t218 == t219)) = some r := H
         have A66 := Aside0.mk A660
         clear A660
         obtain rfl := Option.some.inj H
         go_enter Try.func3, Try.ntmps3
         try go_wp2_with (first | ((with_reducible refine gate_dst (N := 3) rfl ?_); refine box_event ?hg (N := 3) ?hd (cs := #[.int .i64 a0_0, .slice A0_1 l0_1.length c0_1]) (t := 24) ?hr ?_; (case hd => rfl); (case hg => rfl); (case hr => first | (go_simp; done) | (go_simp; rfl)); intro gb192 hg w67 hbox hb; have n0_ := Aside0.mk (below_step bw hb); have n1_ := Aside0.mk (hbox); have n2_ := Aside0.mk ((g1 hg bw : w.heap.size ≤ gb192)); have n3_ := Aside0.mk ((g1 hg bw : w.heap.size ≤ gb192)); clear HB; have HB := n0_; have BK192 := n1_; have GW192 := n2_; have GE192 := n3_; clear n0_ n1_ n2_ n3_; clear hb hbox hg) | ((with_reducible refine gate_dst (N := 4) rfl ?_); refine box_event ?hg (N := 4) ?hd (cs := #[.int .i64 a1_0, .slice A1_1 l1_1.length c1_1]) (t := 24) ?hr ?_; (case hd => rfl); (case hg => rfl); (case hr => first | (go_simp; done) | (go_simp; rfl)); intro gb193 hg w68 hbox hb; have n0_ := Aside0.mk (nb BK192.out hb); have n1_ := Aside0.mk (below_step bw hb); have n2_ := Aside0.mk (hbox); have n3_ := Aside0.mk ((g1 hg bw : w.heap.size ≤ gb193)); have n4_ := Aside0.mk ((g1 hg bw : w.heap.size ≤ gb193)); have n5_ := Aside0.mk ((n1 hg BK192.out : gb192 ≠ gb193)); have n6_ := Aside0.mk ((n2 hg BK192.out : gb193 ≠ gb192)); clear BK192; clear HB; have BK192 := n0_; have HB := n1_; have BK193 := n2_; have GW193 := n3_; have GE193 := n4_; have NB192_193 := n5_; have NB193_192 := n6_; clear n0_ n1_ n2_ n3_ n4_ n5_ n6_; clear hb hbox hg) | ((with_reducible refine gate_dst (N := 5) rfl ?_); refine box_event ?hg (N := 5) ?hd (cs := #[.int .i64 a2_0, .int .i64 a2_1]) (t := 26) ?hr ?_; (case hd => rfl); (case hg => rfl); (case hr => first | (go_simp; done) | (go_simp; rfl)); intro gb194 hg w69 hbox hb; have n0_ := Aside0.mk (nb BK192.out hb); have n1_ := Aside0.mk (nb BK193.out hb); have n2_ := Aside0.mk (below_step bw hb); have n3_ := Aside0.mk (hbox); have n4_ := Aside0.mk ((g1 hg bw : w.heap.size ≤ gb194)); have n5_ := Aside0.mk ((g1 hg bw : w.heap.size ≤ gb194)); have n6_ := Aside0.mk ((n1 hg BK192.out : gb192 ≠ gb194)); have n7_ := Aside0.mk ((n2 hg BK192.out : gb194 ≠ gb192)); have n8_ := Aside0.mk ((n1 hg BK193.out : gb193 ≠ gb194)); have n9_ := Aside0.mk ((n2 hg BK193.out : gb194 ≠ gb193)); clear BK192; clear BK193; clear HB; have BK192 := n0_; have BK193 := n1_; have HB := n2_; have BK194 := n3_; have GW194 := n4_; have GE194 := n5_; have NB192_194 := n6_; have NB194_192 := n7_; have NB193_194 := n8_; have NB194_193 := n9_; clear n0_ n1_ n2_ n3_ n4_ n5_ n6_ n7_ n8_ n9_; clear hb hbox hg) | ((with_reducible refine gate_callee (f := 7) rfl ?_); refine goesL_ (some 11) rfl rfl Try.func7 (by kernel_rfl) rfl #[] rfl am ?_; (with_reducible refine (carillonlaw12_examples.calls  true _ A4.out).mono ?_); rintro e w70 ⟨rfl, hb⟩; refine ⟨_, rfl, ?_⟩; have n0_ := Aside0.mk (nb BK192.out hb); have n1_ := Aside0.mk (nb BK193.out hb); have n2_ := Aside0.mk (nb BK194.out hb); have n3_ := Aside0.mk (below_step bw hb); clear BK192; clear BK193; clear BK194; clear HB; have BK192 := n0_; have BK193 := n1_; have BK194 := n2_; have HB := n3_; clear n0_ n1_ n2_ n3_; (try clear hb); (try clear hb2); (try clear hk); (try clear hi); have hnb71 := NB192_193.out; have hnc71 := NB193_192.out; have hnb72 := NB192_194.out; have hnc72 := NB194_192.out; have hcz73_0 := bc2_0 BK192.out; have hcz73_1 := bc2_1 BK192.out; have hfz73_0 := blk_frozen BK192.out 0; have hfz73_1 := blk_frozen BK192.out 1) | ((with_reducible refine gate_callee (f := 8) rfl ?_); refine goesL_ (some 14) rfl rfl Try.func8 (by kernel_rfl) rfl #[.agg #[.int .i64 a0_0, .slice A0_1 l0_1.length c0_1]] rfl am ?_; (with_reducible refine (view_First.calls k a0_0 _ _ l0_1 t196 t197 t198 _ ?side1 ?side2 A5.out).mono ?_); (case side1 => repeat (first | exact (Kd.C_below HR0_1.out HB.out) | (with_reducible refine Kd.C_alloc ?_ _) | (with_reducible refine Kd.C_drewN ?_ _) | (with_reducible refine Kd.C_drew ?_))); (case side2 => exact HC0_1.out); rintro e w74 ⟨rfl, hb⟩; refine ⟨_, rfl, ?_⟩; have n0_ := Aside0.mk (nb BK192.out hb); have n1_ := Aside0.mk (nb BK193.out hb); have n2_ := Aside0.mk (nb BK194.out hb); have n3_ := Aside0.mk (below_step bw hb); clear BK192; clear BK193; clear BK194; clear HB; have BK192 := n0_; have BK193 := n1_; have BK194 := n2_; have HB := n3_; clear n0_ n1_ n2_ n3_; (try clear hb); (try clear hb2); (try clear hk); (try clear hi)) | ((with_reducible refine gate_dst (N := 8) rfl ?_); refine box_event ?hg (N := 8) ?hd (cs := #[.int .i64 0, .int .i64 0]) (t := 26) ?hr ?_; (case hd => rfl); (case hg => rfl); (case hr => first | (go_simp; done) | (go_simp; rfl)); intro gb199 hg w75 hbox hb; have n0_ := Aside0.mk (nb BK192.out hb); have n1_ := Aside0.mk (nb BK193.out hb); have n2_ := Aside0.mk (nb BK194.out hb); have n3_ := Aside0.mk (below_step bw hb); have n4_ := Aside0.mk (hbox); have n5_ := Aside0.mk ((g1 hg bw : w.heap.size ≤ gb199)); have n6_ := Aside0.mk ((g1 hg bw : w.heap.size ≤ gb199)); have n7_ := Aside0.mk ((n1 hg BK192.out : gb192 ≠ gb199)); have n8_ := Aside0.mk ((n2 hg BK192.out : gb199 ≠ gb192)); have n9_ := Aside0.mk ((n1 hg BK193.out : gb193 ≠ gb199)); have n10_ := Aside0.mk ((n2 hg BK193.out : gb199 ≠ gb193)); have n11_ := Aside0.mk ((n1 hg BK194.out : gb194 ≠ gb199)); have n12_ := Aside0.mk ((n2 hg BK194.out : gb199 ≠ gb194)); clear BK192; clear BK193; clear BK194; clear HB; have BK192 := n0_; have BK193 := n1_; have BK194 := n2_; have HB := n3_; have BK199 := n4_; have GW199 := n5_; have GE199 := n6_; have NB192_199 := n7_; have NB199_192 := n8_; have NB193_199 := n9_; have NB199_193 := n10_; have NB194_199 := n11_; have NB199_194 := n12_; clear n0_ n1_ n2_ n3_ n4_ n5_ n6_ n7_ n8_ n9_ n10_ n11_ n12_; clear hb hbox hg; have hnb76 := NB199_192.out; have hnc76 := NB192_199.out; have hnb77 := NB199_193.out; have hnc77 := NB193_199.out; have hnb78 := NB199_194.out; have hnc78 := NB194_199.out; have hcz79_0 := bc2_0 BK199.out; have hcz79_1 := bc2_1 BK199.out; have hfz79_0 := blk_frozen BK199.out 0; have hfz79_1 := blk_frozen BK199.out 1; have hcz80_0 := bc2_0 BK192.out; have hcz80_1 := bc2_1 BK192.out; have hfz80_0 := blk_frozen BK192.out 0; have hfz80_1 := blk_frozen BK192.out 1) | ((with_reducible refine gate_callee (f := 9) rfl ?_); refine goesL_ (some 18) rfl rfl Try.func9 (by kernel_rfl) rfl #[.agg #[.int .i64 a0_0, .slice A0_1 l0_1.length c0_1]] rfl am ?_; (with_reducible refine (carillonref12_Right.calls k a0_0 _ _ l0_1 false _ ?side1 ?side2 A6.out).mono ?_); (case side1 => exact Kd.C_below HR0_1.out bw); (case side2 => exact HC0_1.out); rintro e w81 ⟨rfl, hb⟩; refine ⟨_, rfl, ?_⟩; have n0_ := Aside0.mk (blk_below (g := gb192) (o := .cells #[.int .i64 a0_0, .slice A0_1 l0_1.length c0_1] 24 (0, 0)) (by (with_reducible repeat (first | refine blk_drewN ?_ _ | refine blk_drew ?_ | refine blk_alloc ?_ _ | refine blk_far ?_ NB192_199.out _)); exact BK192.out) hb); have n1_ := Aside0.mk (blk_below (g := gb193) (o := .cells #[.int .i64 a1_0, .slice A1_1 l1_1.length c1_1] 24 (0, 0)) (by (with_reducible repeat (first | refine blk_drewN ?_ _ | refine blk_drew ?_ | refine blk_alloc ?_ _ | refine blk_far ?_ NB193_199.out _)); exact BK193.out) hb); have n2_ := Aside0.mk (blk_below (g := gb194) (o := .cells #[.int .i64 a2_0, .int .i64 a2_1] 26 (0, 0)) (by (with_reducible repeat (first | refine blk_drewN ?_ _ | refine blk_drew ?_ | refine blk_alloc ?_ _ | refine blk_far ?_ NB194_199.out _)); exact BK194.out) hb); have n3_ := Aside0.mk (blk_below (g := gb199) (o := .cells #[.int .i64 t196, .int .i64 t197] 26 (0, 0)) (by (with_reducible repeat (first | refine blk_drewN ?_ _ | refine blk_drew ?_ | refine blk_alloc ?_ _)); refine blk_put (cs := #[.int .i64 t196, .int .i64 0]) ?_ 1 _ rfl; (with_reducible repeat (first | refine blk_drewN ?_ _ | refine blk_drew ?_ | refine blk_alloc ?_ _)); refine blk_put (cs := #[.int .i64 0, .int .i64 0]) ?_ 0 _ rfl; (with_reducible repeat (first | refine blk_drewN ?_ _ | refine blk_drew ?_ | refine blk_alloc ?_ _)); exact BK199.out) hb); have n4_ := Aside0.mk (below_step bw hb); clear BK192; clear BK193; clear BK194; clear BK199; clear HB; have BK192 := n0_; have BK193 := n1_; have BK194 := n2_; have BK199 := n3_; have HB := n4_; clear n0_ n1_ n2_ n3_ n4_; (try clear hb); (try clear hb2); (try clear hk); (try clear hi)))
         have n0_ := Aside0.mk (blk_drew BK192.out)
         have n1_ := Aside0.mk (blk_drew BK193.out)
         have n2_ := Aside0.mk (blk_drew BK194.out)
         have n3_ := Aside0.mk (blk_drew BK199.out)
         have n4_ := Aside0.mk (below_drew1 HB.out)
         clear BK192
         clear BK193
         clear BK194
         clear BK199
         clear HB
         have BK192 := n0_
         have BK193 := n1_
         have BK194 := n2_
         have BK199 := n3_
         have HB := n4_
         clear n0_ n1_ n2_ n3_ n4_
         refine start_ (n := 26) (S := fun w' => w'.cell? ⟨gb199, 0, none⟩ = some (.int .i64 t196) ∧ w'.cell? ⟨gb199, 1, none⟩ = some (.int .i64 t197)) (ds := []) #[false, false, false, false, false, false, false, false, false, false, false, false, false, false, false, false, false, false, false, false, false, false, false, false, false, false] (by kernel_rfl) rfl rfl ⟨(blk_cell BK199.out 0).trans rfl, (blk_cell BK199.out 1).trans rfl⟩ (fun hHeld => ?_); refine with_tabW carillonlaw12_ViewTells.tab4 carillonlaw12_ViewTells.bits4 (fun HT_ HW_ => ?_)
         generalize w81.drew = w82 at BK192 BK193 BK194 BK199 HB hHeld ⊢
         refine pure_ (i := 0) (N := some 19) (v := ?_) (a' := ?_) #[true, false, false, false, false, false, false, false, false, false, false, false, false, false, false, false, false, false, false, false, false, false, false, false, false, false] rfl rfl (any_of HT_.out (by kernel_rfl)) (fun _ _ _ h => h) (Or.inl ⟨by rfl, ?_⟩) ?_ ?_
         rotate_left
         ·intro w'
          go_simp
          with_reducible rfl
         rotate_left
         ·simp only [Act.put, sl1, sl2, sl3, i64_w, i32_w]
          rfl
         refine pure_ (i := 1) (N := some 20) (v := ?_) (a' := ?_) #[true, true, false, false, false, false, false, false, false, false, false, false, false, false, false, false, false, false, false, false, false, false, false, false, false, false] rfl rfl (any_of HT_.out (by kernel_rfl)) (fun _ _ _ h => h) (Or.inl ⟨by rfl, ?_⟩) ?_ ?_
         rotate_left
         ·intro w'
          go_simp
          with_reducible rfl
         rotate_left
         ·simp only [Act.put, sl1, sl2, sl3, i64_w, i32_w]
          rfl
         refine pure_ (i := 2) (N := some 21) (v := undef) (a' := ?_) #[true, true, true, false, false, false, false, false, false, false, false, false, false, false, false, false, false, false, false, false, false, false, false, false, false, false] rfl rfl (any_of HT_.out (by kernel_rfl)) (fun _ _ _ h => h) (Or.inr ⟨by rfl, rfl⟩) ?_ ?_
         rotate_left
         ·simp only [Act.put, sl1, sl2, sl3, i64_w, i32_w]
          rfl
         refine pure_ (i := 3) (N := some 22) (v := undef) (a' := ?_) #[true, true, true, true, false, false, false, false, false, false, false, false, false, false, false, false, false, false, false, false, false, false, false, false, false, false] rfl rfl (any_of HT_.out (by kernel_rfl)) (fun _ _ _ h => h) (Or.inr ⟨by rfl, rfl⟩) ?_ ?_
         rotate_left
         ·simp only [Act.put, sl1, sl2, sl3, i64_w, i32_w]
          rfl
         refine pure_ (i := 4) (N := some 23) (v := undef) (a' := ?_) #[true, true, true, true, true, false, false, false, false, false, false, false, false, false, false, false, false, false, false, false, false, false, false, false, false, false] rfl rfl (any_of HT_.out (by kernel_rfl)) (fun _ _ _ h => h) (Or.inr ⟨by rfl, rfl⟩) ?_ ?_
         rotate_left
         ·simp only [Act.put, sl1, sl2, sl3, i64_w, i32_w]
          rfl
         refine pure_ (i := 5) (N := some 24) (v := undef) (a' := ?_) #[true, true, true, true, true, true, false, false, false, false, false, false, false, false, false, false, false, false, false, false, false, false, false, false, false, false] rfl rfl (any_of HT_.out (by kernel_rfl)) (fun _ _ _ h => h) (Or.inr ⟨by rfl, rfl⟩) ?_ ?_
         rotate_left
         ·simp only [Act.put, sl1, sl2, sl3, i64_w, i32_w]
          rfl
         refine pure_ (i := 6) (N := some 25) (v := undef) (a' := ?_) #[true, true, true, true, true, true, true, false, false, false, false, false, false, false, false, false, false, false, false, false, false, false, false, false, false, false] rfl rfl (any_of HT_.out (by kernel_rfl)) (fun _ _ _ h => h) (Or.inr ⟨by rfl, rfl⟩) ?_ ?_
         rotate_left
         ·simp only [Act.put, sl1, sl2, sl3, i64_w, i32_w]
          rfl
         refine pure_ (i := 7) (N := some 26) (v := undef) (a' := ?_) #[true, true, true, true, true, true, true, true, false, false, false, false, false, false, false, false, false, false, false, false, false, false, false, false, false, false] rfl rfl (any_of HT_.out (by kernel_rfl)) (fun _ _ _ h => h) (Or.inr ⟨by rfl, rfl⟩) ?_ ?_
         rotate_left
         ·simp only [Act.put, sl1, sl2, sl3, i64_w, i32_w]
          rfl
         refine pure_ (i := 8) (N := some 27) (v := undef) (a' := ?_) #[true, true, true, true, true, true, true, true, true, false, false, false, false, false, false, false, false, false, false, false, false, false, false, false, false, false] rfl rfl (any_of HT_.out (by kernel_rfl)) (fun _ _ _ h => h) (Or.inr ⟨by rfl, rfl⟩) ?_ ?_
         rotate_left
         ·simp only [Act.put, sl1, sl2, sl3, i64_w, i32_w]
          rfl
         refine pure_ (i := 9) (N := some 28) (v := undef) (a' := ?_) #[true, true, true, true, true, true, true, true, true, true, false, false, false, false, false, false, false, false, false, false, false, false, false, false, false, false] rfl rfl (any_of HT_.out (by kernel_rfl)) (fun _ _ _ h => h) (Or.inr ⟨by rfl, rfl⟩) ?_ ?_
         rotate_left
         ·simp only [Act.put, sl1, sl2, sl3, i64_w, i32_w]
          rfl
         refine pure_ (i := 10) (N := some 29) (v := undef) (a' := ?_) #[true, true, true, true, true, true, true, true, true, true, true, false, false, false, false, false, false, false, false, false, false, false, false, false, false, false] rfl rfl (any_of HT_.out (by kernel_rfl)) (fun _ _ _ h => h) (Or.inr ⟨by rfl, rfl⟩) ?_ ?_
         rotate_left
         ·simp only [Act.put, sl1, sl2, sl3, i64_w, i32_w]
          rfl
         refine pure_ (i := 11) (N := some 30) (v := undef) (a' := ?_) #[true, true, true, true, true, true, true, true, true, true, true, true, false, false, false, false, false, false, false, false, false, false, false, false, false, false] rfl rfl (any_of HT_.out (by kernel_rfl)) (fun _ _ _ h => h) (Or.inr ⟨by rfl, rfl⟩) ?_ ?_
         rotate_left
         ·simp only [Act.put, sl1, sl2, sl3, i64_w, i32_w]
          rfl
         refine pure_ (i := 12) (N := some 31) (v := ?_) (a' := ?_) #[true, true, true, true, true, true, true, true, true, true, true, true, true, false, false, false, false, false, false, false, false, false, false, false, false, false] rfl rfl (any_of HT_.out (by kernel_rfl)) (fun _ _ _ h => h) (Or.inl ⟨by rfl, ?_⟩) ?_ ?_
         rotate_left
         ·intro w'
          go_simp
          with_reducible rfl
         rotate_left
         ·simp only [Act.put, sl1, sl2, sl3, i64_w, i32_w]
          rfl
         refine pure_ (i := 13) (N := some 32) (v := ?_) (a' := ?_) #[true, true, true, true, true, true, true, true, true, true, true, true, true, true, false, false, false, false, false, false, false, false, false, false, false, false] rfl rfl (any_of HT_.out (by kernel_rfl)) (fun _ _ _ h => h) (Or.inl ⟨by rfl, ?_⟩) ?_ ?_
         rotate_left
         ·intro w'
          go_simp
          with_reducible rfl
         rotate_left
         ·simp only [Act.put, sl1, sl2, sl3, i64_w, i32_w]
          rfl
         refine pure_ (i := 14) (N := some 33) (v := ?_) (a' := ?_) #[true, true, true, true, true, true, true, true, true, true, true, true, true, true, true, false, false, false, false, false, false, false, false, false, false, false] rfl rfl (any_of HT_.out (by kernel_rfl)) (fun _ _ _ h => h) (Or.inl ⟨by rfl, ?_⟩) ?_ ?_
         rotate_left
         ·intro w'
          go_simp
          with_reducible rfl
         rotate_left
         ·simp only [Act.put, sl1, sl2, sl3, i64_w, i32_w]
          rfl
         refine pure_ (i := 15) (N := some 34) (v := ?_) (a' := ?_) #[true, true, true, true, true, true, true, true, true, true, true, true, true, true, true, true, false, false, false, false, false, false, false, false, false, false] rfl rfl (any_of HT_.out (by kernel_rfl)) (fun _ _ _ h => h) (Or.inl ⟨by rfl, ?_⟩) ?_ ?_
         rotate_left
         ·intro w'
          go_simp
          with_reducible rfl
         rotate_left
         ·simp only [Act.put, sl1, sl2, sl3, i64_w, i32_w]
          rfl
         refine pure_ (i := 16) (N := some 35) (v := ?_) (a' := ?_) #[true, true, true, true, true, true, true, true, true, true, true, true, true, true, true, true, true, false, false, false, false, false, false, false, false, false] rfl rfl (any_of HT_.out (by kernel_rfl)) (fun _ _ _ h => h) (Or.inl ⟨by rfl, ?_⟩) ?_ ?_
         rotate_left
         ·intro w'
          go_simp
          with_reducible rfl
         rotate_left
         ·simp only [Act.put, sl1, sl2, sl3, i64_w, i32_w]
          rfl
         refine pure_ (i := 17) (N := some 36) (v := ?_) (a' := ?_) #[true, true, true, true, true, true, true, true, true, true, true, true, true, true, true, true, true, true, false, false, false, false, false, false, false, false] rfl rfl (any_of HT_.out (by kernel_rfl)) (fun _ _ _ h => h) (Or.inl ⟨by rfl, ?_⟩) ?_ ?_
         rotate_left
         ·intro w'
          go_simp
          with_reducible rfl
         rotate_left
         ·simp only [Act.put, sl1, sl2, sl3, i64_w, i32_w]
          rfl
         refine pure_ (i := 18) (N := some 37) (v := ?_) (a' := ?_) #[true, true, true, true, true, true, true, true, true, true, true, true, true, true, true, true, true, true, true, false, false, false, false, false, false, false] rfl rfl (any_of HT_.out (by kernel_rfl)) (fun _ _ _ h => h) (Or.inl ⟨by rfl, ?_⟩) ?_ ?_
         rotate_left
         ·intro w'
          go_simp
          with_reducible rfl
         rotate_left
         ·simp only [Act.put, sl1, sl2, sl3, i64_w, i32_w]
          rfl
         refine pure_ (i := 19) (N := some 38) (v := ?_) (a' := ?_) #[true, true, true, true, true, true, true, true, true, true, true, true, true, true, true, true, true, true, true, true, false, false, false, false, false, false] rfl rfl (any_of HT_.out (by kernel_rfl)) (fun _ _ _ h => h) (Or.inl ⟨by rfl, ?_⟩) ?_ ?_
         rotate_left
         ·intro w'
          go_simp
          with_reducible rfl
         rotate_left
         ·simp only [Act.put, sl1, sl2, sl3, i64_w, i32_w]
          rfl
         refine pure_ (i := 21) (N := some 40) (v := ?_) (a' := ?_) #[true, true, true, true, true, true, true, true, true, true, true, true, true, true, true, true, true, true, true, true, false, true, false, false, false, false] rfl rfl (any_of HT_.out (by kernel_rfl)) (fun _ _ _ h => h) (Or.inl ⟨by rfl, ?_⟩) ?_ ?_
         rotate_left
         ·intro w'
          go_simp
          with_reducible rfl
         rotate_left
         ·simp only [Act.put, sl1, sl2, sl3, i64_w, i32_w]
          rfl
         refine take_ (i := 20) (N := some 39) (v := ?_) (a' := ?_) #[true, true, true, true, true, true, true, true, true, true, true, true, true, true, true, true, true, true, true, true, true, true, false, false, false, false] rfl rfl (take_ofW HT_.out HW_.out (by kernel_rfl)) (fun _ _ _ h => h) (Or.inl ⟨by rfl, ?_⟩) hHeld ?_ ?_
         rotate_left
         ·rintro w' ⟨s0, s1⟩
          go_simp
          with_reducible rfl
         rotate_left
         ·simp only [Act.put, sl1, sl2, sl3, i64_w, i32_w]
          rfl
         refine pure_ (i := 22) (N := some 41) (v := ?_) (a' := ?_) #[true, true, true, true, true, true, true, true, true, true, true, true, true, true, true, true, true, true, true, true, true, true, true, false, false, false] rfl rfl (any_of HT_.out (by kernel_rfl)) (fun _ _ _ h => h) (Or.inl ⟨by rfl, ?_⟩) ?_ ?_
         rotate_left
         ·intro w'
          go_simp
          with_reducible rfl
         rotate_left
         ·simp only [Act.put, sl1, sl2, sl3, i64_w, i32_w]
          rfl
         refine pure_ (i := 23) (N := some 42) (v := ?_) (a' := ?_) #[true, true, true, true, true, true, true, true, true, true, true, true, true, true, true, true, true, true, true, true, true, true, true, true, false, false] rfl rfl (any_of HT_.out (by kernel_rfl)) (fun _ _ _ h => h) (Or.inl ⟨by rfl, ?_⟩) ?_ ?_
         rotate_left
         ·intro w'
          go_simp
          with_reducible rfl
         rotate_left
         ·simp only [Act.put, sl1, sl2, sl3, i64_w, i32_w]
          rfl
         refine pure_ (i := 24) (N := some 43) (v := ?_) (a' := ?_) #[true, true, true, true, true, true, true, true, true, true, true, true, true, true, true, true, true, true, true, true, true, true, true, true, true, false] rfl rfl (any_of HT_.out (by kernel_rfl)) (fun _ _ _ h => h) (Or.inl ⟨by rfl, ?_⟩) ?_ ?_
         rotate_left
         ·intro w'
          go_simp
          with_reducible rfl
         rotate_left
         ·simp only [Act.put, sl1, sl2, sl3, i64_w, i32_w]
          rfl
         refine pure_ (i := 25) (N := some 44) (v := ?_) (a' := ?_) #[true, true, true, true, true, true, true, true, true, true, true, true, true, true, true, true, true, true, true, true, true, true, true, true, true, true] rfl rfl (any_of HT_.out (by kernel_rfl)) (fun _ _ _ h => h) (Or.inl ⟨by rfl, ?_⟩) ?_ ?_
         rotate_left
         ·intro w'
          go_simp
          with_reducible rfl
         rotate_left
         ·simp only [Act.put, sl1, sl2, sl3, i64_w, i32_w]
          rfl
         refine done_ (done_of HT_.out (by kernel_rfl)) ?_
         try go_wp2
         have n0_ := Aside0.mk (blk_drew BK192.out)
         have n1_ := Aside0.mk (blk_drew BK193.out)
         have n2_ := Aside0.mk (blk_drew BK194.out)
         have n3_ := Aside0.mk (blk_drew BK199.out)
         have n4_ := Aside0.mk (below_drew1 HB.out)
         clear BK192
         clear BK193
         clear BK194
         clear BK199
         clear HB
         have BK192 := n0_
         have BK193 := n1_
         have BK194 := n2_
         have BK199 := n3_
         have HB := n4_
         clear n0_ n1_ n2_ n3_ n4_
         refine start_ (n := 40) (S := fun w' => w'.cell? ⟨gb194, 0, none⟩ = some (.int .i64 a2_0) ∧ w'.cell? ⟨gb194, 1, none⟩ = some (.int .i64 a2_1) ∧ w'.cell? ⟨gb192, 0, none⟩ = some (.int .i64 a0_0) ∧ w'.cell? ⟨gb192, 1, none⟩ = some (.slice A0_1 l0_1.length c0_1) ∧ w'.cell? ⟨gb193, 0, none⟩ = some (.int .i64 a1_0) ∧ w'.cell? ⟨gb193, 1, none⟩ = some (.slice A1_1 l1_1.length c1_1)) (ds := []) #[false, false, false, false, false, false, false, false, false, false, false, false, false, false, false, false, false, false, false, false, false, false, false, false, false, false, false, false, false, false, false, false, false, false, false, false, false, false, false, false] (by kernel_rfl) rfl rfl ⟨(blk_cell BK194.out 0).trans rfl, (blk_cell BK194.out 1).trans rfl, (blk_cell BK192.out 0).trans rfl, (blk_cell BK192.out 1).trans rfl, (blk_cell BK193.out 0).trans rfl, (blk_cell BK193.out 1).trans rfl⟩ (fun hHeld => ?_); refine with_tabW carillonlaw12_ViewTells.tab6 carillonlaw12_ViewTells.bits6 (fun HT_ HW_ => ?_)
         generalize w82.drew = w83 at BK192 BK193 BK194 BK199 HB hHeld ⊢
         refine pure_ (i := 0) (N := some 45) (v := ?_) (a' := ?_) #[true, false, false, false, false, false, false, false, false, false, false, false, false, false, false, false, false, false, false, false, false, false, false, false, false, false, false, false, false, false, false, false, false, false, false, false, false, false, false, false] rfl rfl (any_of HT_.out (by kernel_rfl)) (fun _ _ _ h => h) (Or.inl ⟨by rfl, ?_⟩) ?_ ?_
         rotate_left
         ·intro w'
          go_simp
          with_reducible rfl
         rotate_left
         ·simp only [Act.put, sl1, sl2, sl3, i64_w, i32_w]
          rfl
         refine pure_ (i := 1) (N := some 46) (v := ?_) (a' := ?_) #[true, true, false, false, false, false, false, false, false, false, false, false, false, false, false, false, false, false, false, false, false, false, false, false, false, false, false, false, false, false, false, false, false, false, false, false, false, false, false, false] rfl rfl (any_of HT_.out (by kernel_rfl)) (fun _ _ _ h => h) (Or.inl ⟨by rfl, ?_⟩) ?_ ?_
         rotate_left
         ·intro w'
          go_simp
          with_reducible rfl
         rotate_left
         ·simp only [Act.put, sl1, sl2, sl3, i64_w, i32_w]
          rfl
         refine take_ (i := 2) (N := some 47) (v := ?_) (a' := ?_) #[true, true, true, false, false, false, false, false, false, false, false, false, false, false, false, false, false, false, false, false, false, false, false, false, false, false, false, false, false, false, false, false, false, false, false, false, false, false, false, false] rfl rfl (take_ofW HT_.out HW_.out (by kernel_rfl)) (fun _ _ _ h => h) (Or.inl ⟨by rfl, ?_⟩) hHeld ?_ ?_
         rotate_left
         ·rintro w' ⟨s0, s1, s2, s3, s4, s5⟩
          go_simp
          with_reducible rfl
         rotate_left
         ·simp only [Act.put, sl1, sl2, sl3, i64_w, i32_w]
          rfl
         refine take_ (i := 4) (N := some 49) (v := ?_) (a' := ?_) #[true, true, true, false, true, false, false, false, false, false, false, false, false, false, false, false, false, false, false, false, false, false, false, false, false, false, false, false, false, false, false, false, false, false, false, false, false, false, false, false] rfl rfl (take_ofW HT_.out HW_.out (by kernel_rfl)) (fun _ _ _ h => h) (Or.inl ⟨by rfl, ?_⟩) hHeld ?_ ?_
         rotate_left
         ·rintro w' ⟨s0, s1, s2, s3, s4, s5⟩
          go_simp
          with_reducible rfl
         rotate_left
         ·simp only [Act.put, sl1, sl2, sl3, i64_w, i32_w]
          rfl
         refine one_ (i := 3) (N := some 48) #[true, true, true, true, true, false, false, false, false, false, false, false, false, false, false, false, false, false, false, false, false, false, false, false, false, false, false, false, false, false, false, false, false, false, false, false, false, false, false, false] rfl rfl (one_of HT_.out (by kernel_rfl)) (by decide) (fun K hK => ?_)
         refine goes_ Try.func10 (by kernel_rfl) rfl #[.agg #[.int .i64 a2_0, .int .i64 a2_1]] (by rfl) rfl rfl am ?_
         with_reducible refine (view_RightMember.calls a2_0 a2_1 t211 _ A54.out).mono ?_
         rintro e w84 ⟨rfl, hb⟩
         refine ⟨_, rfl, ?_⟩
         have n0_ := Aside0.mk (nb BK192.out hb)
         have n1_ := Aside0.mk (nb BK193.out hb)
         have n2_ := Aside0.mk (nb BK194.out hb)
         have n3_ := Aside0.mk (nb BK199.out hb)
         have n4_ := Aside0.mk (below_step bw hb)
         clear BK192
         clear BK193
         clear BK194
         clear BK199
         clear HB
         have BK192 := n0_
         have BK193 := n1_
         have BK194 := n2_
         have BK199 := n3_
         have HB := n4_
         clear n0_ n1_ n2_ n3_ n4_
         (try clear hb)
         (try clear hb2)
         (try clear hk)
         (try clear hi)
         refine hK.out _ _ ⟨(blk_cell BK194.out 0).trans rfl, (blk_cell BK194.out 1).trans rfl, (blk_cell BK192.out 0).trans rfl, (blk_cell BK192.out 1).trans rfl, (blk_cell BK193.out 0).trans rfl, (blk_cell BK193.out 1).trans rfl⟩ (fun hHeld => ?_)
         clear hK K
         refine norm_ (a' := ?_) ?_ ?_
         rotate_left
         ·show Act.put _ (some 48) _ = _
          simp only [Act.put, sl1, sl2, sl3, i64_w, i32_w]
          rfl
         refine one_ (i := 5) (N := some 50) #[true, true, true, true, true, true, false, false, false, false, false, false, false, false, false, false, false, false, false, false, false, false, false, false, false, false, false, false, false, false, false, false, false, false, false, false, false, false, false, false] rfl rfl (one_of HT_.out (by kernel_rfl)) (by decide) (fun K hK => ?_)
         refine goes_ Try.func11 (by kernel_rfl) rfl #[.agg #[.int .i64 a2_0, .int .i64 a2_1]] (by rfl) rfl rfl am ?_
         with_reducible refine (carillonref12_RightMember.calls a2_0 a2_1 t212 _ A55.out).mono ?_
         rintro e w85 ⟨rfl, hb⟩
         refine ⟨_, rfl, ?_⟩
         have n0_ := Aside0.mk (nb BK192.out hb)
         have n1_ := Aside0.mk (nb BK193.out hb)
         have n2_ := Aside0.mk (nb BK194.out hb)
         have n3_ := Aside0.mk (nb BK199.out hb)
         have n4_ := Aside0.mk (below_step bw hb)
         clear BK192
         clear BK193
         clear BK194
         clear BK199
         clear HB
         have BK192 := n0_
         have BK193 := n1_
         have BK194 := n2_
         have BK199 := n3_
         have HB := n4_
         clear n0_ n1_ n2_ n3_ n4_
         (try clear hb)
         (try clear hb2)
         (try clear hk)
         (try clear hi)
         refine hK.out _ _ ⟨(blk_cell BK194.out 0).trans rfl, (blk_cell BK194.out 1).trans rfl, (blk_cell BK192.out 0).trans rfl, (blk_cell BK192.out 1).trans rfl, (blk_cell BK193.out 0).trans rfl, (blk_cell BK193.out 1).trans rfl⟩ (fun hHeld => ?_)
         clear hK K
         refine norm_ (a' := ?_) ?_ ?_
         rotate_left
         ·show Act.put _ (some 50) _ = _
          simp only [Act.put, sl1, sl2, sl3, i64_w, i32_w]
          rfl
         refine pure_ (i := 6) (N := some 51) (v := ?_) (a' := ?_) #[true, true, true, true, true, true, true, false, false, false, false, false, false, false, false, false, false, false, false, false, false, false, false, false, false, false, false, false, false, false, false, false, false, false, false, false, false, false, false, false] rfl rfl (any_of HT_.out (by kernel_rfl)) (fun _ _ _ h => h) (Or.inl ⟨by rfl, ?_⟩) ?_ ?_
         rotate_left
         ·intro w'
          go_simp
          with_reducible rfl
         rotate_left
         ·simp only [Act.put, sl1, sl2, sl3, i64_w, i32_w]
          rfl
         refine pure_ (i := 7) (N := some 52) (v := ?_) (a' := ?_) #[true, true, true, true, true, true, true, true, false, false, false, false, false, false, false, false, false, false, false, false, false, false, false, false, false, false, false, false, false, false, false, false, false, false, false, false, false, false, false, false] rfl rfl (any_of HT_.out (by kernel_rfl)) (fun _ _ _ h => h) (Or.inl ⟨by rfl, ?_⟩) ?_ ?_
         rotate_left
         ·intro w'
          go_simp
          with_reducible rfl
         rotate_left
         ·simp only [Act.put, sl1, sl2, sl3, i64_w, i32_w]
          rfl
         refine pure_ (i := 8) (N := some 53) (v := ?_) (a' := ?_) #[true, true, true, true, true, true, true, true, true, false, false, false, false, false, false, false, false, false, false, false, false, false, false, false, false, false, false, false, false, false, false, false, false, false, false, false, false, false, false, false] rfl rfl (any_of HT_.out (by kernel_rfl)) (fun _ _ _ h => h) (Or.inl ⟨by rfl, ?_⟩) ?_ ?_
         rotate_left
         ·intro w'
          go_simp
          with_reducible rfl
         rotate_left
         ·simp only [Act.put, sl1, sl2, sl3, i64_w, i32_w]
          rfl
         refine pure_ (i := 11) (N := some 56) (v := ?_) (a' := ?_) #[true, true, true, true, true, true, true, true, true, false, false, true, false, false, false, false, false, false, false, false, false, false, false, false, false, false, false, false, false, false, false, false, false, false, false, false, false, false, false, false] rfl rfl (any_of HT_.out (by kernel_rfl)) (fun _ _ _ h => h) (Or.inl ⟨by rfl, ?_⟩) ?_ ?_
         rotate_left
         ·intro w'
          go_simp
          with_reducible rfl
         rotate_left
         ·simp only [Act.put, sl1, sl2, sl3, i64_w, i32_w]
          rfl
         refine take_ (i := 9) (N := some 54) (v := ?_) (a' := ?_) #[true, true, true, true, true, true, true, true, true, true, false, true, false, false, false, false, false, false, false, false, false, false, false, false, false, false, false, false, false, false, false, false, false, false, false, false, false, false, false, false] rfl rfl (take_ofW HT_.out HW_.out (by kernel_rfl)) (fun _ _ _ h => h) (Or.inl ⟨by rfl, ?_⟩) hHeld ?_ ?_
         rotate_left
         ·rintro w' ⟨s0, s1, s2, s3, s4, s5⟩
          go_simp
          with_reducible rfl
         rotate_left
         ·simp only [Act.put, sl1, sl2, sl3, i64_w, i32_w]
          rfl
         refine one_ (i := 10) (N := some 55) #[true, true, true, true, true, true, true, true, true, true, true, true, false, false, false, false, false, false, false, false, false, false, false, false, false, false, false, false, false, false, false, false, false, false, false, false, false, false, false, false] rfl rfl (one_of HT_.out (by kernel_rfl)) (by decide) (fun K hK => ?_)
         refine goes_ Try.func12 (by kernel_rfl) rfl #[.agg #[.int .i64 a0_0, .slice A0_1 l0_1.length c0_1]] (by rfl) rfl rfl am ?_
         with_reducible refine (view_Right.calls k a0_0 _ _ l0_1 t213 _ ?side1 ?side2 A57.out).mono ?_
         (case side1 => repeat (first | exact (Kd.C_below HR0_1.out HB.out) | (with_reducible refine Kd.C_alloc ?_ _) | (with_reducible refine Kd.C_drewN ?_ _) | (with_reducible refine Kd.C_drew ?_)))
         (case side2 => exact HC0_1.out)
         rintro e w86 ⟨rfl, hb⟩
         refine ⟨_, rfl, ?_⟩
         have n0_ := Aside0.mk (nb BK192.out hb)
         have n1_ := Aside0.mk (nb BK193.out hb)
         have n2_ := Aside0.mk (nb BK194.out hb)
         have n3_ := Aside0.mk (nb BK199.out hb)
         have n4_ := Aside0.mk (below_step bw hb)
         clear BK192
         clear BK193
         clear BK194
         clear BK199
         clear HB
         have BK192 := n0_
         have BK193 := n1_
         have BK194 := n2_
         have BK199 := n3_
         have HB := n4_
         clear n0_ n1_ n2_ n3_ n4_
         (try clear hb)
         (try clear hb2)
         (try clear hk)
         (try clear hi)
         refine hK.out _ _ ⟨(blk_cell BK194.out 0).trans rfl, (blk_cell BK194.out 1).trans rfl, (blk_cell BK192.out 0).trans rfl, (blk_cell BK192.out 1).trans rfl, (blk_cell BK193.out 0).trans rfl, (blk_cell BK193.out 1).trans rfl⟩ (fun hHeld => ?_)
         clear hK K
         refine norm_ (a' := ?_) ?_ ?_
         rotate_left
         ·show Act.put _ (some 55) _ = _
          simp only [Act.put, sl1, sl2, sl3, i64_w, i32_w]
          rfl
         refine pure_ (i := 12) (N := some 57) (v := ?_) (a' := ?_) #[true, true, true, true, true, true, true, true, true, true, true, true, true, false, false, false, false, false, false, false, false, false, false, false, false, false, false, false, false, false, false, false, false, false, false, false, false, false, false, false] rfl rfl (any_of HT_.out (by kernel_rfl)) (fun _ _ _ h => h) (Or.inl ⟨by rfl, ?_⟩) ?_ ?_
         rotate_left
         ·intro w'
          go_simp
          with_reducible rfl
         rotate_left
         ·simp only [Act.put, sl1, sl2, sl3, i64_w, i32_w]
          rfl
         refine pure_ (i := 13) (N := some 58) (v := ?_) (a' := ?_) #[true, true, true, true, true, true, true, true, true, true, true, true, true, true, false, false, false, false, false, false, false, false, false, false, false, false, false, false, false, false, false, false, false, false, false, false, false, false, false, false] rfl rfl (any_of HT_.out (by kernel_rfl)) (fun _ _ _ h => h) (Or.inl ⟨by rfl, ?_⟩) ?_ ?_
         rotate_left
         ·intro w'
          go_simp
          with_reducible rfl
         rotate_left
         ·simp only [Act.put, sl1, sl2, sl3, i64_w, i32_w]
          rfl
         refine pure_ (i := 14) (N := some 59) (v := ?_) (a' := ?_) #[true, true, true, true, true, true, true, true, true, true, true, true, true, true, true, false, false, false, false, false, false, false, false, false, false, false, false, false, false, false, false, false, false, false, false, false, false, false, false, false] rfl rfl (any_of HT_.out (by kernel_rfl)) (fun _ _ _ h => h) (Or.inl ⟨by rfl, ?_⟩) ?_ ?_
         rotate_left
         ·intro w'
          go_simp
          with_reducible rfl
         rotate_left
         ·simp only [Act.put, sl1, sl2, sl3, i64_w, i32_w]
          rfl
         refine take_ (i := 15) (N := some 60) (v := ?_) (a' := ?_) #[true, true, true, true, true, true, true, true, true, true, true, true, true, true, true, true, false, false, false, false, false, false, false, false, false, false, false, false, false, false, false, false, false, false, false, false, false, false, false, false] rfl rfl (take_ofW HT_.out HW_.out (by kernel_rfl)) (fun _ _ _ h => h) (Or.inl ⟨by rfl, ?_⟩) hHeld ?_ ?_
         rotate_left
         ·rintro w' ⟨s0, s1, s2, s3, s4, s5⟩
          go_simp
          with_reducible rfl
         rotate_left
         ·simp only [Act.put, sl1, sl2, sl3, i64_w, i32_w]
          rfl
         refine take_ (i := 17) (N := some 62) (v := ?_) (a' := ?_) #[true, true, true, true, true, true, true, true, true, true, true, true, true, true, true, true, false, true, false, false, false, false, false, false, false, false, false, false, false, false, false, false, false, false, false, false, false, false, false, false] rfl rfl (take_ofW HT_.out HW_.out (by kernel_rfl)) (fun _ _ _ h => h) (Or.inl ⟨by rfl, ?_⟩) hHeld ?_ ?_
         rotate_left
         ·rintro w' ⟨s0, s1, s2, s3, s4, s5⟩
          go_simp
          with_reducible rfl
         rotate_left
         ·simp only [Act.put, sl1, sl2, sl3, i64_w, i32_w]
          rfl
         refine one_ (i := 16) (N := some 61) #[true, true, true, true, true, true, true, true, true, true, true, true, true, true, true, true, true, true, false, false, false, false, false, false, false, false, false, false, false, false, false, false, false, false, false, false, false, false, false, false] rfl rfl (one_of HT_.out (by kernel_rfl)) (by decide) (fun K hK => ?_)
         refine goes_ Try.func13 (by kernel_rfl) rfl #[.agg #[.int .i64 a0_0, .slice A0_1 l0_1.length c0_1]] (by rfl) rfl rfl am ?_
         with_reducible refine (view_Majority.calls a0_0 _ _ l0_1 t214 _ ?side1 ?side2 A59.out).mono ?_
         (case side1 => repeat (first | exact (Kd.C_below HR0_1.out HB.out) | (with_reducible refine Kd.C_alloc ?_ _) | (with_reducible refine Kd.C_drewN ?_ _) | (with_reducible refine Kd.C_drew ?_)))
         (case side2 => exact HC0_1.out)
         rintro e w87 ⟨rfl, hb⟩
         refine ⟨_, rfl, ?_⟩
         have n0_ := Aside0.mk (nb BK192.out hb)
         have n1_ := Aside0.mk (nb BK193.out hb)
         have n2_ := Aside0.mk (nb BK194.out hb)
         have n3_ := Aside0.mk (nb BK199.out hb)
         have n4_ := Aside0.mk (below_step bw hb)
         clear BK192
         clear BK193
         clear BK194
         clear BK199
         clear HB
         have BK192 := n0_
         have BK193 := n1_
         have BK194 := n2_
         have BK199 := n3_
         have HB := n4_
         clear n0_ n1_ n2_ n3_ n4_
         (try clear hb)
         (try clear hb2)
         (try clear hk)
         (try clear hi)
         refine hK.out _ _ ⟨(blk_cell BK194.out 0).trans rfl, (blk_cell BK194.out 1).trans rfl, (blk_cell BK192.out 0).trans rfl, (blk_cell BK192.out 1).trans rfl, (blk_cell BK193.out 0).trans rfl, (blk_cell BK193.out 1).trans rfl⟩ (fun hHeld => ?_)
         clear hK K
         refine norm_ (a' := ?_) ?_ ?_
         rotate_left
         ·show Act.put _ (some 61) _ = _
          simp only [Act.put, sl1, sl2, sl3, i64_w, i32_w]
          rfl
         refine one_ (i := 18) (N := some 63) #[true, true, true, true, true, true, true, true, true, true, true, true, true, true, true, true, true, true, true, false, false, false, false, false, false, false, false, false, false, false, false, false, false, false, false, false, false, false, false, false] rfl rfl (one_of HT_.out (by kernel_rfl)) (by decide) (fun K hK => ?_)
         refine goes_ Try.func14 (by kernel_rfl) rfl #[.agg #[.int .i64 a0_0, .slice A0_1 l0_1.length c0_1]] (by rfl) rfl rfl am ?_
         with_reducible refine (carillonref12_Majority.calls a0_0 _ _ l0_1 t215 _ ?side1 ?side2 A60.out).mono ?_
         (case side1 => repeat (first | exact (Kd.C_below HR0_1.out HB.out) | (with_reducible refine Kd.C_alloc ?_ _) | (with_reducible refine Kd.C_drewN ?_ _) | (with_reducible refine Kd.C_drew ?_)))
         (case side2 => exact HC0_1.out)
         rintro e w88 ⟨rfl, hb⟩
         refine ⟨_, rfl, ?_⟩
         have n0_ := Aside0.mk (nb BK192.out hb)
         have n1_ := Aside0.mk (nb BK193.out hb)
         have n2_ := Aside0.mk (nb BK194.out hb)
         have n3_ := Aside0.mk (nb BK199.out hb)
         have n4_ := Aside0.mk (below_step bw hb)
         clear BK192
         clear BK193
         clear BK194
         clear BK199
         clear HB
         have BK192 := n0_
         have BK193 := n1_
         have BK194 := n2_
         have BK199 := n3_
         have HB := n4_
         clear n0_ n1_ n2_ n3_ n4_
         (try clear hb)
         (try clear hb2)
         (try clear hk)
         (try clear hi)
         refine hK.out _ _ ⟨(blk_cell BK194.out 0).trans rfl, (blk_cell BK194.out 1).trans rfl, (blk_cell BK192.out 0).trans rfl, (blk_cell BK192.out 1).trans rfl, (blk_cell BK193.out 0).trans rfl, (blk_cell BK193.out 1).trans rfl⟩ (fun hHeld => ?_)
         clear hK K
         refine norm_ (a' := ?_) ?_ ?_
         rotate_left
         ·show Act.put _ (some 63) _ = _
          simp only [Act.put, sl1, sl2, sl3, i64_w, i32_w]
          rfl
         refine pure_ (i := 19) (N := some 64) (v := ?_) (a' := ?_) #[true, true, true, true, true, true, true, true, true, true, true, true, true, true, true, true, true, true, true, true, false, false, false, false, false, false, false, false, false, false, false, false, false, false, false, false, false, false, false, false] rfl rfl (any_of HT_.out (by kernel_rfl)) (fun _ _ _ h => h) (Or.inl ⟨by rfl, ?_⟩) ?_ ?_
         rotate_left
         ·intro w'
          go_simp
          with_reducible rfl
         rotate_left
         ·simp only [Act.put, sl1, sl2, sl3, i64_w, i32_w]
          rfl
         refine pure_ (i := 20) (N := some 65) (v := ?_) (a' := ?_) #[true, true, true, true, true, true, true, true, true, true, true, true, true, true, true, true, true, true, true, true, true, false, false, false, false, false, false, false, false, false, false, false, false, false, false, false, false, false, false, false] rfl rfl (any_of HT_.out (by kernel_rfl)) (fun _ _ _ h => h) (Or.inl ⟨by rfl, ?_⟩) ?_ ?_
         rotate_left
         ·intro w'
          go_simp
          with_reducible rfl
         rotate_left
         ·simp only [Act.put, sl1, sl2, sl3, i64_w, i32_w]
          rfl
         refine pure_ (i := 21) (N := some 66) (v := ?_) (a' := ?_) #[true, true, true, true, true, true, true, true, true, true, true, true, true, true, true, true, true, true, true, true, true, true, false, false, false, false, false, false, false, false, false, false, false, false, false, false, false, false, false, false] rfl rfl (any_of HT_.out (by kernel_rfl)) (fun _ _ _ h => h) (Or.inl ⟨by rfl, ?_⟩) ?_ ?_
         rotate_left
         ·intro w'
          go_simp
          with_reducible rfl
         rotate_left
         ·simp only [Act.put, sl1, sl2, sl3, i64_w, i32_w]
          rfl
         refine take_ (i := 22) (N := some 67) (v := ?_) (a' := ?_) #[true, true, true, true, true, true, true, true, true, true, true, true, true, true, true, true, true, true, true, true, true, true, true, false, false, false, false, false, false, false, false, false, false, false, false, false, false, false, false, false] rfl rfl (take_ofW HT_.out HW_.out (by kernel_rfl)) (fun _ _ _ h => h) (Or.inl ⟨by rfl, ?_⟩) hHeld ?_ ?_
         rotate_left
         ·rintro w' ⟨s0, s1, s2, s3, s4, s5⟩
          go_simp
          with_reducible rfl
         rotate_left
         ·simp only [Act.put, sl1, sl2, sl3, i64_w, i32_w]
          rfl
         refine take_ (i := 23) (N := some 68) (v := ?_) (a' := ?_) #[true, true, true, true, true, true, true, true, true, true, true, true, true, true, true, true, true, true, true, true, true, true, true, true, false, false, false, false, false, false, false, false, false, false, false, false, false, false, false, false] rfl rfl (take_ofW HT_.out HW_.out (by kernel_rfl)) (fun _ _ _ h => h) (Or.inl ⟨by rfl, ?_⟩) hHeld ?_ ?_
         rotate_left
         ·rintro w' ⟨s0, s1, s2, s3, s4, s5⟩
          go_simp
          with_reducible rfl
         rotate_left
         ·simp only [Act.put, sl1, sl2, sl3, i64_w, i32_w]
          rfl
         refine take_ (i := 25) (N := some 70) (v := ?_) (a' := ?_) #[true, true, true, true, true, true, true, true, true, true, true, true, true, true, true, true, true, true, true, true, true, true, true, true, false, true, false, false, false, false, false, false, false, false, false, false, false, false, false, false] rfl rfl (take_ofW HT_.out HW_.out (by kernel_rfl)) (fun _ _ _ h => h) (Or.inl ⟨by rfl, ?_⟩) hHeld ?_ ?_
         rotate_left
         ·rintro w' ⟨s0, s1, s2, s3, s4, s5⟩
          go_simp
          with_reducible rfl
         rotate_left
         ·simp only [Act.put, sl1, sl2, sl3, i64_w, i32_w]
          rfl
         refine take_ (i := 26) (N := some 71) (v := ?_) (a' := ?_) #[true, true, true, true, true, true, true, true, true, true, true, true, true, true, true, true, true, true, true, true, true, true, true, true, false, true, true, false, false, false, false, false, false, false, false, false, false, false, false, false] rfl rfl (take_ofW HT_.out HW_.out (by kernel_rfl)) (fun _ _ _ h => h) (Or.inl ⟨by rfl, ?_⟩) hHeld ?_ ?_
         rotate_left
         ·rintro w' ⟨s0, s1, s2, s3, s4, s5⟩
          go_simp
          with_reducible rfl
         rotate_left
         ·simp only [Act.put, sl1, sl2, sl3, i64_w, i32_w]
          rfl
         refine one_ (i := 24) (N := some 69) #[true, true, true, true, true, true, true, true, true, true, true, true, true, true, true, true, true, true, true, true, true, true, true, true, true, true, true, false, false, false, false, false, false, false, false, false, false, false, false, false] rfl rfl (one_of HT_.out (by kernel_rfl)) (by decide) (fun K hK => ?_)
         refine goes_ Try.func15 (by kernel_rfl) rfl #[.agg #[.int .i64 a0_0, .slice A0_1 l0_1.length c0_1], .agg #[.int .i64 a2_0, .int .i64 a2_1]] (by rfl) rfl rfl am ?_
         with_reducible refine (view_Has.calls k a0_0 _ _ l0_1 a2_0 a2_1 t216 _ ?side1 ?side2 A62.out).mono ?_
         (case side1 => repeat (first | exact (Kd.C_below HR0_1.out HB.out) | (with_reducible refine Kd.C_alloc ?_ _) | (with_reducible refine Kd.C_drewN ?_ _) | (with_reducible refine Kd.C_drew ?_)))
         (case side2 => exact HC0_1.out)
         rintro e w89 ⟨rfl, hb⟩
         refine ⟨_, rfl, ?_⟩
         have n0_ := Aside0.mk (nb BK192.out hb)
         have n1_ := Aside0.mk (nb BK193.out hb)
         have n2_ := Aside0.mk (nb BK194.out hb)
         have n3_ := Aside0.mk (nb BK199.out hb)
         have n4_ := Aside0.mk (below_step bw hb)
         clear BK192
         clear BK193
         clear BK194
         clear BK199
         clear HB
         have BK192 := n0_
         have BK193 := n1_
         have BK194 := n2_
         have BK199 := n3_
         have HB := n4_
         clear n0_ n1_ n2_ n3_ n4_
         (try clear hb)
         (try clear hb2)
         (try clear hk)
         (try clear hi)
         refine hK.out _ _ ⟨(blk_cell BK194.out 0).trans rfl, (blk_cell BK194.out 1).trans rfl, (blk_cell BK192.out 0).trans rfl, (blk_cell BK192.out 1).trans rfl, (blk_cell BK193.out 0).trans rfl, (blk_cell BK193.out 1).trans rfl⟩ (fun hHeld => ?_)
         clear hK K
         refine norm_ (a' := ?_) ?_ ?_
         rotate_left
         ·show Act.put _ (some 69) _ = _
          simp only [Act.put, sl1, sl2, sl3, i64_w, i32_w]
          rfl
         refine one_ (i := 27) (N := some 72) #[true, true, true, true, true, true, true, true, true, true, true, true, true, true, true, true, true, true, true, true, true, true, true, true, true, true, true, true, false, false, false, false, false, false, false, false, false, false, false, false] rfl rfl (one_of HT_.out (by kernel_rfl)) (by decide) (fun K hK => ?_)
         refine goes_ Try.func16 (by kernel_rfl) rfl #[.agg #[.int .i64 a0_0, .slice A0_1 l0_1.length c0_1], .agg #[.int .i64 a2_0, .int .i64 a2_1]] (by rfl) rfl rfl am ?_
         with_reducible refine (carillonref12_Has.calls k a0_0 _ _ l0_1 a2_0 a2_1 t217 _ ?side1 ?side2 A63.out).mono ?_
         (case side1 => repeat (first | exact (Kd.C_below HR0_1.out HB.out) | (with_reducible refine Kd.C_alloc ?_ _) | (with_reducible refine Kd.C_drewN ?_ _) | (with_reducible refine Kd.C_drew ?_)))
         (case side2 => exact HC0_1.out)
         rintro e w90 ⟨rfl, hb⟩
         refine ⟨_, rfl, ?_⟩
         have n0_ := Aside0.mk (nb BK192.out hb)
         have n1_ := Aside0.mk (nb BK193.out hb)
         have n2_ := Aside0.mk (nb BK194.out hb)
         have n3_ := Aside0.mk (nb BK199.out hb)
         have n4_ := Aside0.mk (below_step bw hb)
         clear BK192
         clear BK193
         clear BK194
         clear BK199
         clear HB
         have BK192 := n0_
         have BK193 := n1_
         have BK194 := n2_
         have BK199 := n3_
         have HB := n4_
         clear n0_ n1_ n2_ n3_ n4_
         (try clear hb)
         (try clear hb2)
         (try clear hk)
         (try clear hi)
         refine hK.out _ _ ⟨(blk_cell BK194.out 0).trans rfl, (blk_cell BK194.out 1).trans rfl, (blk_cell BK192.out 0).trans rfl, (blk_cell BK192.out 1).trans rfl, (blk_cell BK193.out 0).trans rfl, (blk_cell BK193.out 1).trans rfl⟩ (fun hHeld => ?_)
         clear hK K
         refine norm_ (a' := ?_) ?_ ?_
         rotate_left
         ·show Act.put _ (some 72) _ = _
          simp only [Act.put, sl1, sl2, sl3, i64_w, i32_w]
          rfl
         refine pure_ (i := 28) (N := some 73) (v := ?_) (a' := ?_) #[true, true, true, true, true, true, true, true, true, true, true, true, true, true, true, true, true, true, true, true, true, true, true, true, true, true, true, true, true, false, false, false, false, false, false, false, false, false, false, false] rfl rfl (any_of HT_.out (by kernel_rfl)) (fun _ _ _ h => h) (Or.inl ⟨by rfl, ?_⟩) ?_ ?_
         rotate_left
         ·intro w'
          go_simp
          with_reducible rfl
         rotate_left
         ·simp only [Act.put, sl1, sl2, sl3, i64_w, i32_w]
          rfl
         refine pure_ (i := 29) (N := some 74) (v := ?_) (a' := ?_) #[true, true, true, true, true, true, true, true, true, true, true, true, true, true, true, true, true, true, true, true, true, true, true, true, true, true, true, true, true, true, false, false, false, false, false, false, false, false, false, false] rfl rfl (any_of HT_.out (by kernel_rfl)) (fun _ _ _ h => h) (Or.inl ⟨by rfl, ?_⟩) ?_ ?_
         rotate_left
         ·intro w'
          go_simp
          with_reducible rfl
         rotate_left
         ·simp only [Act.put, sl1, sl2, sl3, i64_w, i32_w]
          rfl
         refine pure_ (i := 30) (N := some 75) (v := ?_) (a' := ?_) #[true, true, true, true, true, true, true, true, true, true, true, true, true, true, true, true, true, true, true, true, true, true, true, true, true, true, true, true, true, true, true, false, false, false, false, false, false, false, false, false] rfl rfl (any_of HT_.out (by kernel_rfl)) (fun _ _ _ h => h) (Or.inl ⟨by rfl, ?_⟩) ?_ ?_
         rotate_left
         ·intro w'
          go_simp
          with_reducible rfl
         rotate_left
         ·simp only [Act.put, sl1, sl2, sl3, i64_w, i32_w]
          rfl
         refine take_ (i := 31) (N := some 76) (v := ?_) (a' := ?_) #[true, true, true, true, true, true, true, true, true, true, true, true, true, true, true, true, true, true, true, true, true, true, true, true, true, true, true, true, true, true, true, true, false, false, false, false, false, false, false, false] rfl rfl (take_ofW HT_.out HW_.out (by kernel_rfl)) (fun _ _ _ h => h) (Or.inl ⟨by rfl, ?_⟩) hHeld ?_ ?_
         rotate_left
         ·rintro w' ⟨s0, s1, s2, s3, s4, s5⟩
          go_simp
          with_reducible rfl
         rotate_left
         ·simp only [Act.put, sl1, sl2, sl3, i64_w, i32_w]
          rfl
         refine take_ (i := 32) (N := some 77) (v := ?_) (a' := ?_) #[true, true, true, true, true, true, true, true, true, true, true, true, true, true, true, true, true, true, true, true, true, true, true, true, true, true, true, true, true, true, true, true, true, false, false, false, false, false, false, false] rfl rfl (take_ofW HT_.out HW_.out (by kernel_rfl)) (fun _ _ _ h => h) (Or.inl ⟨by rfl, ?_⟩) hHeld ?_ ?_
         rotate_left
         ·rintro w' ⟨s0, s1, s2, s3, s4, s5⟩
          go_simp
          with_reducible rfl
         rotate_left
         ·simp only [Act.put, sl1, sl2, sl3, i64_w, i32_w]
          rfl
         refine take_ (i := 34) (N := some 79) (v := ?_) (a' := ?_) #[true, true, true, true, true, true, true, true, true, true, true, true, true, true, true, true, true, true, true, true, true, true, true, true, true, true, true, true, true, true, true, true, true, false, true, false, false, false, false, false] rfl rfl (take_ofW HT_.out HW_.out (by kernel_rfl)) (fun _ _ _ h => h) (Or.inl ⟨by rfl, ?_⟩) hHeld ?_ ?_
         rotate_left
         ·rintro w' ⟨s0, s1, s2, s3, s4, s5⟩
          go_simp
          with_reducible rfl
         rotate_left
         ·simp only [Act.put, sl1, sl2, sl3, i64_w, i32_w]
          rfl
         refine take_ (i := 35) (N := some 80) (v := ?_) (a' := ?_) #[true, true, true, true, true, true, true, true, true, true, true, true, true, true, true, true, true, true, true, true, true, true, true, true, true, true, true, true, true, true, true, true, true, false, true, true, false, false, false, false] rfl rfl (take_ofW HT_.out HW_.out (by kernel_rfl)) (fun _ _ _ h => h) (Or.inl ⟨by rfl, ?_⟩) hHeld ?_ ?_
         rotate_left
         ·rintro w' ⟨s0, s1, s2, s3, s4, s5⟩
          go_simp
          with_reducible rfl
         rotate_left
         ·simp only [Act.put, sl1, sl2, sl3, i64_w, i32_w]
          rfl
         refine one_ (i := 33) (N := some 78) #[true, true, true, true, true, true, true, true, true, true, true, true, true, true, true, true, true, true, true, true, true, true, true, true, true, true, true, true, true, true, true, true, true, true, true, true, false, false, false, false] rfl rfl (one_of HT_.out (by kernel_rfl)) (by decide) (fun K hK => ?_)
         refine goes_ Try.func17 (by kernel_rfl) rfl #[.agg #[.int .i64 a0_0, .slice A0_1 l0_1.length c0_1], .agg #[.int .i64 a1_0, .slice A1_1 l1_1.length c1_1]] (by rfl) rfl rfl am ?_
         with_reducible refine (view_Common.calls a0_0 _ _ l0_1 a1_0 _ _ l1_1 t218 _ ?side1 ?side2 ?side3 ?side4 A65.out).mono ?_
         (case side1 => repeat (first | exact (Kd.C_below HR0_1.out HB.out) | (with_reducible refine Kd.C_alloc ?_ _) | (with_reducible refine Kd.C_drewN ?_ _) | (with_reducible refine Kd.C_drew ?_)))
         (case side2 => exact HC0_1.out)
         (case side3 => repeat (first | exact (Kd.C_below HR1_1.out HB.out) | (with_reducible refine Kd.C_alloc ?_ _) | (with_reducible refine Kd.C_drewN ?_ _) | (with_reducible refine Kd.C_drew ?_)))
         (case side4 => exact HC1_1.out)
         rintro e w91 ⟨rfl, hb⟩
         refine ⟨_, rfl, ?_⟩
         have n0_ := Aside0.mk (nb BK192.out hb)
         have n1_ := Aside0.mk (nb BK193.out hb)
         have n2_ := Aside0.mk (nb BK194.out hb)
         have n3_ := Aside0.mk (nb BK199.out hb)
         have n4_ := Aside0.mk (below_step bw hb)
         clear BK192
         clear BK193
         clear BK194
         clear BK199
         clear HB
         have BK192 := n0_
         have BK193 := n1_
         have BK194 := n2_
         have BK199 := n3_
         have HB := n4_
         clear n0_ n1_ n2_ n3_ n4_
         (try clear hb)
         (try clear hb2)
         (try clear hk)
         (try clear hi)
         refine hK.out _ _ ⟨(blk_cell BK194.out 0).trans rfl, (blk_cell BK194.out 1).trans rfl, (blk_cell BK192.out 0).trans rfl, (blk_cell BK192.out 1).trans rfl, (blk_cell BK193.out 0).trans rfl, (blk_cell BK193.out 1).trans rfl⟩ (fun hHeld => ?_)
         clear hK K
         refine norm_ (a' := ?_) ?_ ?_
         rotate_left
         ·show Act.put _ (some 78) _ = _
          simp only [Act.put, sl1, sl2, sl3, i64_w, i32_w]
          rfl
         refine one_ (i := 36) (N := some 81) #[true, true, true, true, true, true, true, true, true, true, true, true, true, true, true, true, true, true, true, true, true, true, true, true, true, true, true, true, true, true, true, true, true, true, true, true, true, false, false, false] rfl rfl (one_of HT_.out (by kernel_rfl)) (by decide) (fun K hK => ?_)
         refine goes_ Try.func18 (by kernel_rfl) rfl #[.agg #[.int .i64 a0_0, .slice A0_1 l0_1.length c0_1], .agg #[.int .i64 a1_0, .slice A1_1 l1_1.length c1_1]] (by rfl) rfl rfl am ?_
         with_reducible refine (carillonref12_Common.calls k a0_0 _ _ l0_1 a1_0 _ _ l1_1 t219 _ ?side1 ?side2 ?side3 ?side4 A66.out).mono ?_
         (case side1 => repeat (first | exact (Kd.C_below HR0_1.out HB.out) | (with_reducible refine Kd.C_alloc ?_ _) | (with_reducible refine Kd.C_drewN ?_ _) | (with_reducible refine Kd.C_drew ?_)))
         (case side2 => exact HC0_1.out)
         (case side3 => repeat (first | exact (Kd.C_below HR1_1.out HB.out) | (with_reducible refine Kd.C_alloc ?_ _) | (with_reducible refine Kd.C_drewN ?_ _) | (with_reducible refine Kd.C_drew ?_)))
         (case side4 => exact HC1_1.out)
         rintro e w92 ⟨rfl, hb⟩
         refine ⟨_, rfl, ?_⟩
         have n0_ := Aside0.mk (nb BK192.out hb)
         have n1_ := Aside0.mk (nb BK193.out hb)
         have n2_ := Aside0.mk (nb BK194.out hb)
         have n3_ := Aside0.mk (nb BK199.out hb)
         have n4_ := Aside0.mk (below_step bw hb)
         clear BK192
         clear BK193
         clear BK194
         clear BK199
         clear HB
         have BK192 := n0_
         have BK193 := n1_
         have BK194 := n2_
         have BK199 := n3_
         have HB := n4_
         clear n0_ n1_ n2_ n3_ n4_
         (try clear hb)
         (try clear hb2)
         (try clear hk)
         (try clear hi)
         refine hK.out _ _ ⟨(blk_cell BK194.out 0).trans rfl, (blk_cell BK194.out 1).trans rfl, (blk_cell BK192.out 0).trans rfl, (blk_cell BK192.out 1).trans rfl, (blk_cell BK193.out 0).trans rfl, (blk_cell BK193.out 1).trans rfl⟩ (fun hHeld => ?_)
         clear hK K
         refine norm_ (a' := ?_) ?_ ?_
         rotate_left
         ·show Act.put _ (some 81) _ = _
          simp only [Act.put, sl1, sl2, sl3, i64_w, i32_w]
          rfl
         refine pure_ (i := 37) (N := some 82) (v := ?_) (a' := ?_) #[true, true, true, true, true, true, true, true, true, true, true, true, true, true, true, true, true, true, true, true, true, true, true, true, true, true, true, true, true, true, true, true, true, true, true, true, true, true, false, false] rfl rfl (any_of HT_.out (by kernel_rfl)) (fun _ _ _ h => h) (Or.inl ⟨by rfl, ?_⟩) ?_ ?_
         rotate_left
         ·intro w'
          go_simp
          with_reducible rfl
         rotate_left
         ·simp only [Act.put, sl1, sl2, sl3, i64_w, i32_w]
          rfl
         refine pure_ (i := 38) (N := some 83) (v := ?_) (a' := ?_) #[true, true, true, true, true, true, true, true, true, true, true, true, true, true, true, true, true, true, true, true, true, true, true, true, true, true, true, true, true, true, true, true, true, true, true, true, true, true, true, false] rfl rfl (any_of HT_.out (by kernel_rfl)) (fun _ _ _ h => h) (Or.inl ⟨by rfl, ?_⟩) ?_ ?_
         rotate_left
         ·intro w'
          go_simp
          with_reducible rfl
         rotate_left
         ·simp only [Act.put, sl1, sl2, sl3, i64_w, i32_w]
          rfl
         refine pure_ (i := 39) (N := some 6) (v := ?_) (a' := ?_) #[true, true, true, true, true, true, true, true, true, true, true, true, true, true, true, true, true, true, true, true, true, true, true, true, true, true, true, true, true, true, true, true, true, true, true, true, true, true, true, true] rfl rfl (any_of HT_.out (by kernel_rfl)) (fun _ _ _ h => h) (Or.inl ⟨by rfl, ?_⟩) ?_ ?_
         rotate_left
         ·intro w'
          go_simp
          with_reducible rfl
         rotate_left
         ·simp only [Act.put, sl1, sl2, sl3, i64_w, i32_w]
          rfl
         refine done_ (done_of HT_.out (by kernel_rfl)) ?_
         try go_wp2
         go_ret
         exact ⟨er, bw⟩
        ·rw [if_neg c64] at H
         have c64b0 : (t216 == t217) = false := by simpa using c64
         (try (have c64b1 : decide (t216 = t217) = false := by simpa using c64))
         (try (have c64b2 : (t216 == t217) = false := by simpa using c64))
         (try (have c64b3 : ¬ (t216 = t217) := by simpa using c64))
         clear c64
         exact absurd ((Option.some.inj H).trans hr_.out) (by decide)
       ·rw [if_neg c61] at H
        have c61b0 : (t214 == t215) = false := beq_eq_false_iff_ne.mpr c61
        have c61b1 : (t214 != t215) = true := bne_iff_ne.mpr c61
        exact absurd ((Option.some.inj H).trans hr_.out) (by decide)
      ·rw [if_neg c58] at H
       have c58b0 : (t213 == false) = false := by simpa using c58
       (try (have c58b1 : decide (t213 = false) = false := by simpa using c58))
       (try (have c58b2 : (t213 == false) = false := by simpa using c58))
       (try (have c58b3 : ¬ (t213 = false) := by simpa using c58))
       clear c58
       exact absurd ((Option.some.inj H).trans hr_.out) (by decide)
     ·rw [if_neg c56] at H
      have c56b0 : (t211 == t212) = false := by simpa using c56
      (try (have c56b1 : decide (t211 = t212) = false := by simpa using c56))
      (try (have c56b2 : (t211 == t212) = false := by simpa using c56))
      (try (have c56b3 : ¬ (t211 = t212) := by simpa using c56))
      clear c56
      exact absurd ((Option.some.inj H).trans hr_.out) (by decide)
    ·replace c53 := Bool.eq_false_iff.mpr c53
     subst c53
     have H1 : (some false) = some r := by rw [if_neg (show ¬ (false = true) by decide)] at H; exact H
     clear H
     have H := H1
     clear H1
     exact absurd ((Option.some.inj H).trans hr_.out) (by decide)
  ·rw [if_neg c51] at H
   have c51b0 : (t198 == 1) = false := beq_eq_false_iff_ne.mpr c51
   have c51b1 : (t198 != 1) = true := bne_iff_ne.mpr c51
   exact absurd ((Option.some.inj H).trans hr_.out) (by decide)

end Go.Proofs.Ytbcpjegakjcmgaa.P
