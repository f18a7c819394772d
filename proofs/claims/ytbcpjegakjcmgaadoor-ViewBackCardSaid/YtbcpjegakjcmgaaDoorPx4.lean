-- Printed by this session's program wip/xp.py (a turned copy of the kit's printer): functions, their contracts.
import Derived.Test.YtbcpjegakjcmgaaDoorPx0
import Derived.Test.YtbcpjegakjcmgaaDoorPx1
import Derived.Test.YtbcpjegakjcmgaaDoorPx2
import Derived.Test.YtbcpjegakjcmgaaDoorPx3
namespace Go.Proofs.YtbcpjegakjcmgaaDoor.P
open Go.RowKit Go.Proofs.YtbcpjegakjcmgaaDoorW.PrintWords Go.Proofs.YtbcpjegakjcmgaaDoorW.PrintLast Go.Proofs.YtbcpjegakjcmgaaDoorW.PrintMore
attribute [local go_sem] max2_int min2_int max_two min_two max_three min_three max_four min_four   -- for this text's walks alone
set_option linter.unusedVariables false
set_option linter.unusedSimpArgs false

attribute [local go_sem high] eqA38
/-! ### carillonlaw12_examples: function 5 -/
def carillonlaw12_examples.g (k : Nat)  : Option (Bool) := (carillonlaw12_m.f 0 1).bind fun bt118 => ((carillonlaw12_m.f 1 1).bind fun bt120 => ((carillonlaw12_m.f 2 1).bind fun bt122 => ((some (([(⟨bt118.1, bt118.2⟩ : S38), (⟨bt120.1, bt120.2⟩ : S38), (⟨bt122.1, bt122.2⟩ : S38)] : List (S38)) : List (S38))).bind fun y124 => ((carillonlaw12_m.f 0 1).bind fun bt128 => ((carillonlaw12_m.f 2 1).bind fun bt130 => ((carillonlaw12_m.f 2 3).bind fun bt132 => ((view_Next.f k 1 y124 (([(⟨bt128.1, bt128.2⟩ : S38), (⟨bt130.1, bt130.2⟩ : S38), (⟨bt132.1, bt132.2⟩ : S38)] : List (S38))) (([0, 1, 2] : List Int))).bind fun bt140 => ((carillonlaw12_m.f 0 1).bind fun bt146 => ((carillonlaw12_m.f 1 1).bind fun bt148 => ((carillonlaw12_m.f 2 3).bind fun bt150 => ((view_Next.f k 1 y124 (([(⟨bt146.1, bt146.2⟩ : S38), (⟨bt148.1, bt148.2⟩ : S38), (⟨bt150.1, bt150.2⟩ : S38)] : List (S38))) (([0, 1, 2] : List Int))).bind fun bt158 => ((view_First.f k bt158.1 bt158.2.1).bind fun bt164 => (if bt140.2.2 = 12 then (if bt158.2.2 = 0 then (if bt158.1 = 2 then (if (bt158.2.1.length : Int) = 3 then (if 2 < (bt158.2.1.length : Int) then ((carillonlaw12_m.f 2 3).bind fun bt169 => (if (((rd_T38 bt158.2.1 2).f0) == bt169.1 && (((rd_T38 bt158.2.1 2).f1) == bt169.2)) = true then ((carillonlaw12_m.f 0 1).bind fun bt171 => (if (bt164.1 == bt171.1 && (bt164.2.1 == bt171.2)) = true then (if bt164.2.2 = 0 then ((view_Majority.f 1 y124).bind fun t173 => (if t173 = 2 then ((view_Common.f 1 y124 bt158.1 bt158.2.1).bind fun t174 => (if t174 = 2 then ((carillonlaw12_m.f 2 3).bind fun bt175 => ((view_Has.f k bt158.1 bt158.2.1 bt175.1 bt175.2).bind fun t177 => (some t177))) else (some false))) else (some false))) else (some false)) else (some false))) else (some false))) else (none)) else (some false)) else (some false)) else (some false)) else (some false))))))))))))))
theorem carillonlaw12_examples.mono : ∀ k, LeO (carillonlaw12_examples.g k ) (carillonlaw12_examples.g (k + 1) ) := by
 intro  k
 unfold carillonlaw12_examples.g
 repeat' first
   | (with_reducible exact view_First.mono _ _ _)
   | (with_reducible exact view_Has.mono _ _ _ _ _)
   | (with_reducible exact view_Next.mono _ _ _ _ _)
   | (with_reducible exact LeO.refl _)
   | (with_reducible exact LeO.none _)
   | (with_reducible refine LeO.ite ?_ ?_)
   | (with_reducible refine LeO.bind ?_ (fun _ => ?_))
   | exact view_First.mono _ _ _
   | exact view_Has.mono _ _ _ _ _
   | exact view_Next.mono _ _ _ _ _
   | exact LeO.none _
   | refine LeO.ite ?_ ?_
   | refine LeO.bind ?_ (fun _ => ?_)
def carillonlaw12_examples.T2 : Bool × List (List Nat × List Nat) := (true, [([], []), ([], []), ([1], []), ([2], []), ([1, 2, 3], [1, 2, 3]), ([], []), ([0, 4, 5, 3], [0, 4, 5]), ([6], [6]), ([7], [7]), ([7], [7]), ([], []), ([10, 8, 6, 0, 1, 2, 3, 4, 5, 6, 7, 8, 10], [8, 10]), ([9, 11, 0, 1, 2, 3, 4, 5, 6, 7, 8, 9, 10, 11], [9])])
def carillonlaw12_examples.B2 : List Nat := [0, 0, 2, 6, 14, 0, 63, 127, 255, 255, 0, 1535, 4095]
theorem carillonlaw12_examples.tab2 : rtab .any (opsOf Tryd.f5 2) = carillonlaw12_examples.T2 := by kernel_rfl
theorem carillonlaw12_examples.bits2 : waitsOk carillonlaw12_examples.T2.2 carillonlaw12_examples.B2 = true := by kernel_rfl
def carillonlaw12_examples.T3 : Bool × List (List Nat × List Nat) := (true, [([], []), ([], []), ([1], []), ([2], []), ([1, 2, 3], [1, 2, 3]), ([], []), ([0, 4, 5, 3], [0, 4, 5]), ([6], [6]), ([7], [7]), ([7], [7]), ([], []), ([10, 8, 6, 0, 1, 2, 3, 4, 5, 6, 7, 8, 10], [8, 10]), ([9, 11, 0, 1, 2, 3, 4, 5, 6, 7, 8, 9, 10, 11], [9])])
def carillonlaw12_examples.B3 : List Nat := [0, 0, 2, 6, 14, 0, 63, 127, 255, 255, 0, 1535, 4095]
theorem carillonlaw12_examples.tab3 : rtab .any (opsOf Tryd.f5 3) = carillonlaw12_examples.T3 := by kernel_rfl
theorem carillonlaw12_examples.bits3 : waitsOk carillonlaw12_examples.T3.2 carillonlaw12_examples.B3 = true := by kernel_rfl
def carillonlaw12_examples.T5 : Bool × List (List Nat × List Nat) := (true, [([], []), ([0], [0]), ([1], [1]), ([2], [2]), ([3, 2], [2, 3]), ([2, 4], [2, 4]), ([5, 2], [5]), ([6], [6]), ([7, 6], [6, 7]), ([8, 6], [6, 8]), ([6, 9], [6, 9]), ([10, 6], [10]), ([11], [11]), ([12, 11], [11, 12]), ([13, 11], [11, 13]), ([14, 11], [11, 14]), ([11, 15], [11, 15]), ([16, 11], [16]), ([17], [17]), ([18, 17], [17, 18]), ([19, 17], [17, 19]), ([20, 17], [17, 20]), ([17, 17], [17]), ([21, 22, 17], [17, 21, 22]), ([17, 23], [17, 23]), ([24, 22], [24]), ([25], [25]), ([25, 25], [25]), ([26, 27, 25], [25, 26, 27]), ([25, 28], [25, 28]), ([29, 27], [29]), ([30], [30]), ([31, 30], [30, 31]), ([30, 32], [30, 32]), ([33, 30], [33]), ([34], [34]), ([35, 34, 34], [34, 35]), ([36, 34], [34, 36]), ([34, 37], [34, 37]), ([38, 36], [38]), ([39], [39]), ([39], [39]), ([40, 41, 39, 39], [39, 40, 41]), ([42, 39], [39, 42]), ([39, 43], [39, 43]), ([44, 42], [44]), ([45], [45]), ([45, 45], [45]), ([46, 47, 47, 45], [45, 46, 47]), ([45, 48], [45, 48]), ([49, 48, 0, 1, 2, 3, 4, 5, 6, 7, 8, 9, 10, 11, 12, 13, 14, 15, 16, 17, 18, 19, 20, 21, 22, 23, 24, 25, 26, 27, 28, 29, 30, 31, 32, 33, 34, 35, 36, 37, 38, 39, 40, 41, 42, 43, 44, 45, 46, 47, 48, 49], [49])])
def carillonlaw12_examples.B5 : List Nat := [0, 1, 3, 7, 15, 31, 63, 127, 255, 511, 1023, 2047, 4095, 8191, 16383, 32767, 65535, 131071, 262143, 524287, 1048575, 2097151, 262143, 8388607, 16777215, 33554431, 67108863, 67108863, 268435455, 536870911, 1073741823, 2147483647, 4294967295, 8589934591, 17179869183, 34359738367, 68719476735, 137438953471, 274877906943, 549755813887, 1099511627775, 1099511627775, 4398046511103, 8796093022207, 17592186044415, 35184372088831, 70368744177663, 70368744177663, 281474976710655, 562949953421311, 1125899906842623]
theorem carillonlaw12_examples.tab5 : rtab .any (opsOf Tryd.f5 5) = carillonlaw12_examples.T5 := by kernel_rfl
theorem carillonlaw12_examples.bits5 : waitsOk carillonlaw12_examples.T5.2 carillonlaw12_examples.B5 = true := by kernel_rfl
set_option maxHeartbeats 8000000 in
set_option maxRecDepth 100000 in
theorem carillonlaw12_examples.calls0 (k : Nat)  (r : Bool) (w : World) (hr_ : Aside0 (r = true)) (h : carillonlaw12_examples.g k  = some r) :
  Calls Tryd.prog 5 #[] w fun e w' => e = .returned (.bool r) ∧ Below w.heap.size w w' := by
 have hu24 := Tryd.underlying24
 have hu38 := Tryd.underlying38
 have HB := Aside0.mk (Below.refl w.heap.size w)
 have H : ((carillonlaw12_m.f 0 1).bind fun bt118 => ((carillonlaw12_m.f 1 1).bind fun bt120 => ((carillonlaw12_m.f 2 1).bind fun bt122 => ((some (([(⟨bt118.1, bt118.2⟩ : S38), (⟨bt120.1, bt120.2⟩ : S38), (⟨bt122.1, bt122.2⟩ : S38)] : List (S38)) : List (S38))).bind fun y124 => ((carillonlaw12_m.f 0 1).bind fun bt128 => ((carillonlaw12_m.f 2 1).bind fun bt130 => ((carillonlaw12_m.f 2 3).bind fun bt132 => ((view_Next.f k 1 y124 (([(⟨bt128.1, bt128.2⟩ : S38), (⟨bt130.1, bt130.2⟩ : S38), (⟨bt132.1, bt132.2⟩ : S38)] : List (S38))) (([0, 1, 2] : List Int))).bind fun bt140 => ((carillonlaw12_m.f 0 1).bind fun bt146 => ((carillonlaw12_m.f 1 1).bind fun bt148 => ((carillonlaw12_m.f 2 3).bind fun bt150 => ((view_Next.f k 1 y124 (([(⟨bt146.1, bt146.2⟩ : S38), (⟨bt148.1, bt148.2⟩ : S38), (⟨bt150.1, bt150.2⟩ : S38)] : List (S38))) (([0, 1, 2] : List Int))).bind fun bt158 => ((view_First.f k bt158.1 bt158.2.1).bind fun bt164 => (if bt140.2.2 = 12 then (if bt158.2.2 = 0 then (if bt158.1 = 2 then (if (bt158.2.1.length : Int) = 3 then (if 2 < (bt158.2.1.length : Int) then ((carillonlaw12_m.f 2 3).bind fun bt169 => (if (((rd_T38 bt158.2.1 2).f0) == bt169.1 && (((rd_T38 bt158.2.1 2).f1) == bt169.2)) = true then ((carillonlaw12_m.f 0 1).bind fun bt171 => (if (bt164.1 == bt171.1 && (bt164.2.1 == bt171.2)) = true then (if bt164.2.2 = 0 then ((view_Majority.f 1 y124).bind fun t173 => (if t173 = 2 then ((view_Common.f 1 y124 bt158.1 bt158.2.1).bind fun t174 => (if t174 = 2 then ((carillonlaw12_m.f 2 3).bind fun bt175 => ((view_Has.f k bt158.1 bt158.2.1 bt175.1 bt175.2).bind fun t177 => (some t177))) else (some false))) else (some false))) else (some false)) else (some false))) else (some false))) else (none)) else (some false)) else (some false)) else (some false)) else (some false))))))))))))))) = some r := h
 clear h
 replace H := Option.bind_eq_some_iff.mp H
 obtain ⟨⟨t118, t119⟩, A10, H⟩ := H
 replace H : ((carillonlaw12_m.f 1 1).bind fun bt120 => ((carillonlaw12_m.f 2 1).bind fun bt122 => ((some (([(⟨t118, t119⟩ : S38), (⟨bt120.1, bt120.2⟩ : S38), (⟨bt122.1, bt122.2⟩ : S38)] : List (S38)) : List (S38))).bind fun y124 => ((carillonlaw12_m.f 0 1).bind fun bt128 => ((carillonlaw12_m.f 2 1).bind fun bt130 => ((carillonlaw12_m.f 2 3).bind fun bt132 => ((view_Next.f k 1 y124 (([(⟨bt128.1, bt128.2⟩ : S38), (⟨bt130.1, bt130.2⟩ : S38), (⟨bt132.1, bt132.2⟩ : S38)] : List (S38))) (([0, 1, 2] : List Int))).bind fun bt140 => ((carillonlaw12_m.f 0 1).bind fun bt146 => ((carillonlaw12_m.f 1 1).bind fun bt148 => ((carillonlaw12_m.f 2 3).bind fun bt150 => ((view_Next.f k 1 y124 (([(⟨bt146.1, bt146.2⟩ : S38), (⟨bt148.1, bt148.2⟩ : S38), (⟨bt150.1, bt150.2⟩ : S38)] : List (S38))) (([0, 1, 2] : List Int))).bind fun bt158 => ((view_First.f k bt158.1 bt158.2.1).bind fun bt164 => (if bt140.2.2 = 12 then (if bt158.2.2 = 0 then (if bt158.1 = 2 then (if (bt158.2.1.length : Int) = 3 then (if 2 < (bt158.2.1.length : Int) then ((carillonlaw12_m.f 2 3).bind fun bt169 => (if (((rd_T38 bt158.2.1 2).f0) == bt169.1 && (((rd_T38 bt158.2.1 2).f1) == bt169.2)) = true then ((carillonlaw12_m.f 0 1).bind fun bt171 => (if (bt164.1 == bt171.1 && (bt164.2.1 == bt171.2)) = true then (if bt164.2.2 = 0 then ((view_Majority.f 1 y124).bind fun t173 => (if t173 = 2 then ((view_Common.f 1 y124 bt158.1 bt158.2.1).bind fun t174 => (if t174 = 2 then ((carillonlaw12_m.f 2 3).bind fun bt175 => ((view_Has.f k bt158.1 bt158.2.1 bt175.1 bt175.2).bind fun t177 => (some t177))) else (some false))) else (some false))) else (some false)) else (some false))) else (some false))) else (none)) else (some false)) else (some false)) else (some false)) else (some false)))))))))))))) = some r := H
 have A1 := Aside0.mk A10
 clear A10
 replace H := Option.bind_eq_some_iff.mp H
 obtain ⟨⟨t120, t121⟩, A20, H⟩ := H
 replace H : ((carillonlaw12_m.f 2 1).bind fun bt122 => ((some (([(⟨t118, t119⟩ : S38), (⟨t120, t121⟩ : S38), (⟨bt122.1, bt122.2⟩ : S38)] : List (S38)) : List (S38))).bind fun y124 => ((carillonlaw12_m.f 0 1).bind fun bt128 => ((carillonlaw12_m.f 2 1).bind fun bt130 => ((carillonlaw12_m.f 2 3).bind fun bt132 => ((view_Next.f k 1 y124 (([(⟨bt128.1, bt128.2⟩ : S38), (⟨bt130.1, bt130.2⟩ : S38), (⟨bt132.1, bt132.2⟩ : S38)] : List (S38))) (([0, 1, 2] : List Int))).bind fun bt140 => ((carillonlaw12_m.f 0 1).bind fun bt146 => ((carillonlaw12_m.f 1 1).bind fun bt148 => ((carillonlaw12_m.f 2 3).bind fun bt150 => ((view_Next.f k 1 y124 (([(⟨bt146.1, bt146.2⟩ : S38), (⟨bt148.1, bt148.2⟩ : S38), (⟨bt150.1, bt150.2⟩ : S38)] : List (S38))) (([0, 1, 2] : List Int))).bind fun bt158 => ((view_First.f k bt158.1 bt158.2.1).bind fun bt164 => (if bt140.2.2 = 12 then (if bt158.2.2 = 0 then (if bt158.1 = 2 then (if (bt158.2.1.length : Int) = 3 then (if 2 < (bt158.2.1.length : Int) then ((carillonlaw12_m.f 2 3).bind fun bt169 => (if (((rd_T38 bt158.2.1 2).f0) == bt169.1 && (((rd_T38 bt158.2.1 2).f1) == bt169.2)) = true then ((carillonlaw12_m.f 0 1).bind fun bt171 => (if (bt164.1 == bt171.1 && (bt164.2.1 == bt171.2)) = true then (if bt164.2.2 = 0 then ((view_Majority.f 1 y124).bind fun t173 => (if t173 = 2 then ((view_Common.f 1 y124 bt158.1 bt158.2.1).bind fun t174 => (if t174 = 2 then ((carillonlaw12_m.f 2 3).bind fun bt175 => ((view_Has.f k bt158.1 bt158.2.1 bt175.1 bt175.2).bind fun t177 => (some t177))) else (some false))) else (some false))) else (some false)) else (some false))) else (some false))) else (none)) else (some false)) else (some false)) else (some false)) else (some false))))))))))))) = some r := H
 have A2 := Aside0.mk A20
 clear A20
 replace H := Option.bind_eq_some_iff.mp H
 obtain ⟨⟨t122, t123⟩, A30, H⟩ := H
 replace H : ((some (([(⟨t118, t119⟩ : S38), (⟨t120, t121⟩ : S38), (⟨t122, t123⟩ : S38)] : List (S38)) : List (S38))).bind fun y124 => ((carillonlaw12_m.f 0 1).bind fun bt128 => ((carillonlaw12_m.f 2 1).bind fun bt130 => ((carillonlaw12_m.f 2 3).bind fun bt132 => ((view_Next.f k 1 y124 (([(⟨bt128.1, bt128.2⟩ : S38), (⟨bt130.1, bt130.2⟩ : S38), (⟨bt132.1, bt132.2⟩ : S38)] : List (S38))) (([0, 1, 2] : List Int))).bind fun bt140 => ((carillonlaw12_m.f 0 1).bind fun bt146 => ((carillonlaw12_m.f 1 1).bind fun bt148 => ((carillonlaw12_m.f 2 3).bind fun bt150 => ((view_Next.f k 1 y124 (([(⟨bt146.1, bt146.2⟩ : S38), (⟨bt148.1, bt148.2⟩ : S38), (⟨bt150.1, bt150.2⟩ : S38)] : List (S38))) (([0, 1, 2] : List Int))).bind fun bt158 => ((view_First.f k bt158.1 bt158.2.1).bind fun bt164 => (if bt140.2.2 = 12 then (if bt158.2.2 = 0 then (if bt158.1 = 2 then (if (bt158.2.1.length : Int) = 3 then (if 2 < (bt158.2.1.length : Int) then ((carillonlaw12_m.f 2 3).bind fun bt169 => (if (((rd_T38 bt158.2.1 2).f0) == bt169.1 && (((rd_T38 bt158.2.1 2).f1) == bt169.2)) = true then ((carillonlaw12_m.f 0 1).bind fun bt171 => (if (bt164.1 == bt171.1 && (bt164.2.1 == bt171.2)) = true then (if bt164.2.2 = 0 then ((view_Majority.f 1 y124).bind fun t173 => (if t173 = 2 then ((view_Common.f 1 y124 bt158.1 bt158.2.1).bind fun t174 => (if t174 = 2 then ((carillonlaw12_m.f 2 3).bind fun bt175 => ((view_Has.f k bt158.1 bt158.2.1 bt175.1 bt175.2).bind fun t177 => (some t177))) else (some false))) else (some false))) else (some false)) else (some false))) else (some false))) else (none)) else (some false)) else (some false)) else (some false)) else (some false)))))))))))) = some r := H
 have A3 := Aside0.mk A30
 clear A30
 obtain ⟨y124, hy124⟩ : ∃ y_ : List (S38), y_ = (([(⟨t118, t119⟩ : S38), (⟨t120, t121⟩ : S38), (⟨t122, t123⟩ : S38)] : List (S38))) := ⟨_, rfl⟩
 replace H : ((carillonlaw12_m.f 0 1).bind fun bt128 => ((carillonlaw12_m.f 2 1).bind fun bt130 => ((carillonlaw12_m.f 2 3).bind fun bt132 => ((view_Next.f k 1 y124 (([(⟨bt128.1, bt128.2⟩ : S38), (⟨bt130.1, bt130.2⟩ : S38), (⟨bt132.1, bt132.2⟩ : S38)] : List (S38))) (([0, 1, 2] : List Int))).bind fun bt140 => ((carillonlaw12_m.f 0 1).bind fun bt146 => ((carillonlaw12_m.f 1 1).bind fun bt148 => ((carillonlaw12_m.f 2 3).bind fun bt150 => ((view_Next.f k 1 y124 (([(⟨bt146.1, bt146.2⟩ : S38), (⟨bt148.1, bt148.2⟩ : S38), (⟨bt150.1, bt150.2⟩ : S38)] : List (S38))) (([0, 1, 2] : List Int))).bind fun bt158 => ((view_First.f k bt158.1 bt158.2.1).bind fun bt164 => (if bt140.2.2 = 12 then (if bt158.2.2 = 0 then (if bt158.1 = 2 then (if (bt158.2.1.length : Int) = 3 then (if 2 < (bt158.2.1.length : Int) then ((carillonlaw12_m.f 2 3).bind fun bt169 => (if (((rd_T38 bt158.2.1 2).f0) == bt169.1 && (((rd_T38 bt158.2.1 2).f1) == bt169.2)) = true then ((carillonlaw12_m.f 0 1).bind fun bt171 => (if (bt164.1 == bt171.1 && (bt164.2.1 == bt171.2)) = true then (if bt164.2.2 = 0 then ((view_Majority.f 1 y124).bind fun t173 => (if t173 = 2 then ((view_Common.f 1 y124 bt158.1 bt158.2.1).bind fun t174 => (if t174 = 2 then ((carillonlaw12_m.f 2 3).bind fun bt175 => ((view_Has.f k bt158.1 bt158.2.1 bt175.1 bt175.2).bind fun t177 => (some t177))) else (some false))) else (some false))) else (some false)) else (some false))) else (some false))) else (none)) else (some false)) else (some false)) else (some false)) else (some false))))))))))) = some r := by first | (rw [hy124]; with_reducible exact H) | (have H2_ := (Option.bind_some _ _).symm.trans H; rw [hy124]; with_reducible exact H2_) | (have H2_ := (Option.bind_some _ _).symm.trans H; with_reducible exact H2_) | with_reducible exact H | (rw [hy124]; exact H) | exact H
 have Ny124 := Aside0.mk hy124
 clear hy124
 replace H := Option.bind_eq_some_iff.mp H
 obtain ⟨⟨t128, t129⟩, A40, H⟩ := H
 replace H : ((carillonlaw12_m.f 2 1).bind fun bt130 => ((carillonlaw12_m.f 2 3).bind fun bt132 => ((view_Next.f k 1 y124 (([(⟨t128, t129⟩ : S38), (⟨bt130.1, bt130.2⟩ : S38), (⟨bt132.1, bt132.2⟩ : S38)] : List (S38))) (([0, 1, 2] : List Int))).bind fun bt140 => ((carillonlaw12_m.f 0 1).bind fun bt146 => ((carillonlaw12_m.f 1 1).bind fun bt148 => ((carillonlaw12_m.f 2 3).bind fun bt150 => ((view_Next.f k 1 y124 (([(⟨bt146.1, bt146.2⟩ : S38), (⟨bt148.1, bt148.2⟩ : S38), (⟨bt150.1, bt150.2⟩ : S38)] : List (S38))) (([0, 1, 2] : List Int))).bind fun bt158 => ((view_First.f k bt158.1 bt158.2.1).bind fun bt164 => (if bt140.2.2 = 12 then (if bt158.2.2 = 0 then (if bt158.1 = 2 then (if (bt158.2.1.length : Int) = 3 then (if 2 < (bt158.2.1.length : Int) then ((carillonlaw12_m.f 2 3).bind fun bt169 => (if (((rd_T38 bt158.2.1 2).f0) == bt169.1 && (((rd_T38 bt158.2.1 2).f1) == bt169.2)) = true then ((carillonlaw12_m.f 0 1).bind fun bt171 => (if (bt164.1 == bt171.1 && (bt164.2.1 == bt171.2)) = true then (if bt164.2.2 = 0 then ((view_Majority.f 1 y124).bind fun t173 => (if t173 = 2 then ((view_Common.f 1 y124 bt158.1 bt158.2.1).bind fun t174 => (if t174 = 2 then ((carillonlaw12_m.f 2 3).bind fun bt175 => ((view_Has.f k bt158.1 bt158.2.1 bt175.1 bt175.2).bind fun t177 => (some t177))) else (some false))) else (some false))) else (some false)) else (some false))) else (some false))) else (none)) else (some false)) else (some false)) else (some false)) else (some false)))))))))) = some r := H
 have A4 := Aside0.mk A40
 clear A40
 replace H := Option.bind_eq_some_iff.mp H
 obtain ⟨⟨t130, t131⟩, A50, H⟩ := H
 replace H : ((carillonlaw12_m.f 2 3).bind fun bt132 => ((view_Next.f k 1 y124 (([(⟨t128, t129⟩ : S38), (⟨t130, t131⟩ : S38), (⟨bt132.1, bt132.2⟩ : S38)] : List (S38))) (([0, 1, 2] : List Int))).bind fun bt140 => ((carillonlaw12_m.f 0 1).bind fun bt146 => ((carillonlaw12_m.f 1 1).bind fun bt148 => ((carillonlaw12_m.f 2 3).bind fun bt150 => ((view_Next.f k 1 y124 (([(⟨bt146.1, bt146.2⟩ : S38), (⟨bt148.1, bt148.2⟩ : S38), (⟨bt150.1, bt150.2⟩ : S38)] : List (S38))) (([0, 1, 2] : List Int))).bind fun bt158 => ((view_First.f k bt158.1 bt158.2.1).bind fun bt164 => (if bt140.2.2 = 12 then (if bt158.2.2 = 0 then (if bt158.1 = 2 then (if (bt158.2.1.length : Int) = 3 then (if 2 < (bt158.2.1.length : Int) then ((carillonlaw12_m.f 2 3).bind fun bt169 => (if (((rd_T38 bt158.2.1 2).f0) == bt169.1 && (((rd_T38 bt158.2.1 2).f1) == bt169.2)) = true then ((carillonlaw12_m.f 0 1).bind fun bt171 => (if (bt164.1 == bt171.1 && (bt164.2.1 == bt171.2)) = true then (if bt164.2.2 = 0 then ((view_Majority.f 1 y124).bind fun t173 => (if t173 = 2 then ((view_Common.f 1 y124 bt158.1 bt158.2.1).bind fun t174 => (if t174 = 2 then ((carillonlaw12_m.f 2 3).bind fun bt175 => ((view_Has.f k bt158.1 bt158.2.1 bt175.1 bt175.2).bind fun t177 => (some t177))) else (some false))) else (some false))) else (some false)) else (some false))) else (some false))) else (none)) else (some false)) else (some false)) else (some false)) else (some false))))))))) = some r := H
 have A5 := Aside0.mk A50
 clear A50
 replace H := Option.bind_eq_some_iff.mp H
 obtain ⟨⟨t132, t133⟩, A60, H⟩ := H
 replace H : ((view_Next.f k 1 y124 (([(⟨t128, t129⟩ : S38), (⟨t130, t131⟩ : S38), (⟨t132, t133⟩ : S38)] : List (S38))) (([0, 1, 2] : List Int))).bind fun bt140 => ((carillonlaw12_m.f 0 1).bind fun bt146 => ((carillonlaw12_m.f 1 1).bind fun bt148 => ((carillonlaw12_m.f 2 3).bind fun bt150 => ((view_Next.f k 1 y124 (([(⟨bt146.1, bt146.2⟩ : S38), (⟨bt148.1, bt148.2⟩ : S38), (⟨bt150.1, bt150.2⟩ : S38)] : List (S38))) (([0, 1, 2] : List Int))).bind fun bt158 => ((view_First.f k bt158.1 bt158.2.1).bind fun bt164 => (if bt140.2.2 = 12 then (if bt158.2.2 = 0 then (if bt158.1 = 2 then (if (bt158.2.1.length : Int) = 3 then (if 2 < (bt158.2.1.length : Int) then ((carillonlaw12_m.f 2 3).bind fun bt169 => (if (((rd_T38 bt158.2.1 2).f0) == bt169.1 && (((rd_T38 bt158.2.1 2).f1) == bt169.2)) = true then ((carillonlaw12_m.f 0 1).bind fun bt171 => (if (bt164.1 == bt171.1 && (bt164.2.1 == bt171.2)) = true then (if bt164.2.2 = 0 then ((view_Majority.f 1 y124).bind fun t173 => (if t173 = 2 then ((view_Common.f 1 y124 bt158.1 bt158.2.1).bind fun t174 => (if t174 = 2 then ((carillonlaw12_m.f 2 3).bind fun bt175 => ((view_Has.f k bt158.1 bt158.2.1 bt175.1 bt175.2).bind fun t177 => (some t177))) else (some false))) else (some false))) else (some false)) else (some false))) else (some false))) else (none)) else (some false)) else (some false)) else (some false)) else (some false)))))))) = some r := H
 have A6 := Aside0.mk A60
 clear A60
 obtain ⟨y134, hy134⟩ : ∃ y_ : List (S38), y_ = (([(⟨t128, t129⟩ : S38), (⟨t130, t131⟩ : S38), (⟨t132, t133⟩ : S38)] : List (S38))) := ⟨_, rfl⟩
 replace H : ((view_Next.f k 1 y124 y134 (([0, 1, 2] : List Int))).bind fun bt140 => ((carillonlaw12_m.f 0 1).bind fun bt146 => ((carillonlaw12_m.f 1 1).bind fun bt148 => ((carillonlaw12_m.f 2 3).bind fun bt150 => ((view_Next.f k 1 y124 (([(⟨bt146.1, bt146.2⟩ : S38), (⟨bt148.1, bt148.2⟩ : S38), (⟨bt150.1, bt150.2⟩ : S38)] : List (S38))) (([0, 1, 2] : List Int))).bind fun bt158 => ((view_First.f k bt158.1 bt158.2.1).bind fun bt164 => (if bt140.2.2 = 12 then (if bt158.2.2 = 0 then (if bt158.1 = 2 then (if (bt158.2.1.length : Int) = 3 then (if 2 < (bt158.2.1.length : Int) then ((carillonlaw12_m.f 2 3).bind fun bt169 => (if (((rd_T38 bt158.2.1 2).f0) == bt169.1 && (((rd_T38 bt158.2.1 2).f1) == bt169.2)) = true then ((carillonlaw12_m.f 0 1).bind fun bt171 => (if (bt164.1 == bt171.1 && (bt164.2.1 == bt171.2)) = true then (if bt164.2.2 = 0 then ((view_Majority.f 1 y124).bind fun t173 => (if t173 = 2 then ((view_Common.f 1 y124 bt158.1 bt158.2.1).bind fun t174 => (if t174 = 2 then ((carillonlaw12_m.f 2 3).bind fun bt175 => ((view_Has.f k bt158.1 bt158.2.1 bt175.1 bt175.2).bind fun t177 => (some t177))) else (some false))) else (some false))) else (some false)) else (some false))) else (some false))) else (none)) else (some false)) else (some false)) else (some false)) else (some false)))))))) = some r := by first | (rw [hy134]; with_reducible exact H) | (have H2_ := (Option.bind_some _ _).symm.trans H; rw [hy134]; with_reducible exact H2_) | (have H2_ := (Option.bind_some _ _).symm.trans H; with_reducible exact H2_) | with_reducible exact H | (rw [hy134]; exact H) | exact H
 have Ny134 := Aside0.mk hy134
 clear hy134
 obtain ⟨y137, hy137⟩ : ∃ y_ : List Int, y_ = (([0, 1, 2] : List Int)) := ⟨_, rfl⟩
 replace H : ((view_Next.f k 1 y124 y134 y137).bind fun bt140 => ((carillonlaw12_m.f 0 1).bind fun bt146 => ((carillonlaw12_m.f 1 1).bind fun bt148 => ((carillonlaw12_m.f 2 3).bind fun bt150 => ((view_Next.f k 1 y124 (([(⟨bt146.1, bt146.2⟩ : S38), (⟨bt148.1, bt148.2⟩ : S38), (⟨bt150.1, bt150.2⟩ : S38)] : List (S38))) (([0, 1, 2] : List Int))).bind fun bt158 => ((view_First.f k bt158.1 bt158.2.1).bind fun bt164 => (if bt140.2.2 = 12 then (if bt158.2.2 = 0 then (if bt158.1 = 2 then (if (bt158.2.1.length : Int) = 3 then (if 2 < (bt158.2.1.length : Int) then ((carillonlaw12_m.f 2 3).bind fun bt169 => (if (((rd_T38 bt158.2.1 2).f0) == bt169.1 && (((rd_T38 bt158.2.1 2).f1) == bt169.2)) = true then ((carillonlaw12_m.f 0 1).bind fun bt171 => (if (bt164.1 == bt171.1 && (bt164.2.1 == bt171.2)) = true then (if bt164.2.2 = 0 then ((view_Majority.f 1 y124).bind fun t173 => (if t173 = 2 then ((view_Common.f 1 y124 bt158.1 bt158.2.1).bind fun t174 => (if t174 = 2 then ((carillonlaw12_m.f 2 3).bind fun bt175 => ((view_Has.f k bt158.1 bt158.2.1 bt175.1 bt175.2).bind fun t177 => (some t177))) else (some false))) else (some false))) else (some false)) else (some false))) else (some false))) else (none)) else (some false)) else (some false)) else (some false)) else (some false)))))))) = some r := by first | (rw [hy137]; with_reducible exact H) | (have H2_ := (Option.bind_some _ _).symm.trans H; rw [hy137]; with_reducible exact H2_) | (have H2_ := (Option.bind_some _ _).symm.trans H; with_reducible exact H2_) | with_reducible exact H | (rw [hy137]; exact H) | exact H
 have Ny137 := Aside0.mk hy137
 clear hy137
 replace H := Option.bind_eq_some_iff.mp H
 obtain ⟨⟨t140, t141, t144⟩, A70, H⟩ := H
 replace H : ((carillonlaw12_m.f 0 1).bind fun bt146 => ((carillonlaw12_m.f 1 1).bind fun bt148 => ((carillonlaw12_m.f 2 3).bind fun bt150 => ((view_Next.f k 1 y124 (([(⟨bt146.1, bt146.2⟩ : S38), (⟨bt148.1, bt148.2⟩ : S38), (⟨bt150.1, bt150.2⟩ : S38)] : List (S38))) (([0, 1, 2] : List Int))).bind fun bt158 => ((view_First.f k bt158.1 bt158.2.1).bind fun bt164 => (if t144 = 12 then (if bt158.2.2 = 0 then (if bt158.1 = 2 then (if (bt158.2.1.length : Int) = 3 then (if 2 < (bt158.2.1.length : Int) then ((carillonlaw12_m.f 2 3).bind fun bt169 => (if (((rd_T38 bt158.2.1 2).f0) == bt169.1 && (((rd_T38 bt158.2.1 2).f1) == bt169.2)) = true then ((carillonlaw12_m.f 0 1).bind fun bt171 => (if (bt164.1 == bt171.1 && (bt164.2.1 == bt171.2)) = true then (if bt164.2.2 = 0 then ((view_Majority.f 1 y124).bind fun t173 => (if t173 = 2 then ((view_Common.f 1 y124 bt158.1 bt158.2.1).bind fun t174 => (if t174 = 2 then ((carillonlaw12_m.f 2 3).bind fun bt175 => ((view_Has.f k bt158.1 bt158.2.1 bt175.1 bt175.2).bind fun t177 => (some t177))) else (some false))) else (some false))) else (some false)) else (some false))) else (some false))) else (none)) else (some false)) else (some false)) else (some false)) else (some false))))))) = some r := H
 have A7 := Aside0.mk A70
 clear A70
 replace H := Option.bind_eq_some_iff.mp H
 obtain ⟨⟨t146, t147⟩, A80, H⟩ := H
 replace H : ((carillonlaw12_m.f 1 1).bind fun bt148 => ((carillonlaw12_m.f 2 3).bind fun bt150 => ((view_Next.f k 1 y124 (([(⟨t146, t147⟩ : S38), (⟨bt148.1, bt148.2⟩ : S38), (⟨bt150.1, bt150.2⟩ : S38)] : List (S38))) (([0, 1, 2] : List Int))).bind fun bt158 => ((view_First.f k bt158.1 bt158.2.1).bind fun bt164 => (if t144 = 12 then (if bt158.2.2 = 0 then (if bt158.1 = 2 then (if (bt158.2.1.length : Int) = 3 then (if 2 < (bt158.2.1.length : Int) then ((carillonlaw12_m.f 2 3).bind fun bt169 => (if (((rd_T38 bt158.2.1 2).f0) == bt169.1 && (((rd_T38 bt158.2.1 2).f1) == bt169.2)) = true then ((carillonlaw12_m.f 0 1).bind fun bt171 => (if (bt164.1 == bt171.1 && (bt164.2.1 == bt171.2)) = true then (if bt164.2.2 = 0 then ((view_Majority.f 1 y124).bind fun t173 => (if t173 = 2 then ((view_Common.f 1 y124 bt158.1 bt158.2.1).bind fun t174 => (if t174 = 2 then ((carillonlaw12_m.f 2 3).bind fun bt175 => ((view_Has.f k bt158.1 bt158.2.1 bt175.1 bt175.2).bind fun t177 => (some t177))) else (some false))) else (some false))) else (some false)) else (some false))) else (some false))) else (none)) else (some false)) else (some false)) else (some false)) else (some false)))))) = some r := H
 have A8 := Aside0.mk A80
 clear A80
 replace H := Option.bind_eq_some_iff.mp H
 obtain ⟨⟨t148, t149⟩, A90, H⟩ := H
 replace H : ((carillonlaw12_m.f 2 3).bind fun bt150 => ((view_Next.f k 1 y124 (([(⟨t146, t147⟩ : S38), (⟨t148, t149⟩ : S38), (⟨bt150.1, bt150.2⟩ : S38)] : List (S38))) (([0, 1, 2] : List Int))).bind fun bt158 => ((view_First.f k bt158.1 bt158.2.1).bind fun bt164 => (if t144 = 12 then (if bt158.2.2 = 0 then (if bt158.1 = 2 then (if (bt158.2.1.length : Int) = 3 then (if 2 < (bt158.2.1.length : Int) then ((carillonlaw12_m.f 2 3).bind fun bt169 => (if (((rd_T38 bt158.2.1 2).f0) == bt169.1 && (((rd_T38 bt158.2.1 2).f1) == bt169.2)) = true then ((carillonlaw12_m.f 0 1).bind fun bt171 => (if (bt164.1 == bt171.1 && (bt164.2.1 == bt171.2)) = true then (if bt164.2.2 = 0 then ((view_Majority.f 1 y124).bind fun t173 => (if t173 = 2 then ((view_Common.f 1 y124 bt158.1 bt158.2.1).bind fun t174 => (if t174 = 2 then ((carillonlaw12_m.f 2 3).bind fun bt175 => ((view_Has.f k bt158.1 bt158.2.1 bt175.1 bt175.2).bind fun t177 => (some t177))) else (some false))) else (some false))) else (some false)) else (some false))) else (some false))) else (none)) else (some false)) else (some false)) else (some false)) else (some false))))) = some r := H
 have A9 := Aside0.mk A90
 clear A90
 replace H := Option.bind_eq_some_iff.mp H
 obtain ⟨⟨t150, t151⟩, A100, H⟩ := H
 replace H : ((view_Next.f k 1 y124 (([(⟨t146, t147⟩ : S38), (⟨t148, t149⟩ : S38), (⟨t150, t151⟩ : S38)] : List (S38))) (([0, 1, 2] : List Int))).bind fun bt158 => ((view_First.f k bt158.1 bt158.2.1).bind fun bt164 => (if t144 = 12 then (if bt158.2.2 = 0 then (if bt158.1 = 2 then (if (bt158.2.1.length : Int) = 3 then (if 2 < (bt158.2.1.length : Int) then ((carillonlaw12_m.f 2 3).bind fun bt169 => (if (((rd_T38 bt158.2.1 2).f0) == bt169.1 && (((rd_T38 bt158.2.1 2).f1) == bt169.2)) = true then ((carillonlaw12_m.f 0 1).bind fun bt171 => (if (bt164.1 == bt171.1 && (bt164.2.1 == bt171.2)) = true then (if bt164.2.2 = 0 then ((view_Majority.f 1 y124).bind fun t173 => (if t173 = 2 then ((view_Common.f 1 y124 bt158.1 bt158.2.1).bind fun t174 => (if t174 = 2 then ((carillonlaw12_m.f 2 3).bind fun bt175 => ((view_Has.f k bt158.1 bt158.2.1 bt175.1 bt175.2).bind fun t177 => (some t177))) else (some false))) else (some false))) else (some false)) else (some false))) else (some false))) else (none)) else (some false)) else (some false)) else (some false)) else (some false)))) = some r := H
 have A10 := Aside0.mk A100
 clear A100
 obtain ⟨y152, hy152⟩ : ∃ y_ : List (S38), y_ = (([(⟨t146, t147⟩ : S38), (⟨t148, t149⟩ : S38), (⟨t150, t151⟩ : S38)] : List (S38))) := ⟨_, rfl⟩
 replace H : ((view_Next.f k 1 y124 y152 (([0, 1, 2] : List Int))).bind fun bt158 => ((view_First.f k bt158.1 bt158.2.1).bind fun bt164 => (if t144 = 12 then (if bt158.2.2 = 0 then (if bt158.1 = 2 then (if (bt158.2.1.length : Int) = 3 then (if 2 < (bt158.2.1.length : Int) then ((carillonlaw12_m.f 2 3).bind fun bt169 => (if (((rd_T38 bt158.2.1 2).f0) == bt169.1 && (((rd_T38 bt158.2.1 2).f1) == bt169.2)) = true then ((carillonlaw12_m.f 0 1).bind fun bt171 => (if (bt164.1 == bt171.1 && (bt164.2.1 == bt171.2)) = true then (if bt164.2.2 = 0 then ((view_Majority.f 1 y124).bind fun t173 => (if t173 = 2 then ((view_Common.f 1 y124 bt158.1 bt158.2.1).bind fun t174 => (if t174 = 2 then ((carillonlaw12_m.f 2 3).bind fun bt175 => ((view_Has.f k bt158.1 bt158.2.1 bt175.1 bt175.2).bind fun t177 => (some t177))) else (some false))) else (some false))) else (some false)) else (some false))) else (some false))) else (none)) else (some false)) else (some false)) else (some false)) else (some false)))) = some r := by first | (rw [hy152]; with_reducible exact H) | (have H2_ := (Option.bind_some _ _).symm.trans H; rw [hy152]; with_reducible exact H2_) | (have H2_ := (Option.bind_some _ _).symm.trans H; with_reducible exact H2_) | with_reducible exact H | (rw [hy152]; exact H) | exact H
 have Ny152 := Aside0.mk hy152
 clear hy152
 obtain ⟨y155, hy155⟩ : ∃ y_ : List Int, y_ = (([0, 1, 2] : List Int)) := ⟨_, rfl⟩
 replace H : ((view_Next.f k 1 y124 y152 y155).bind fun bt158 => ((view_First.f k bt158.1 bt158.2.1).bind fun bt164 => (if t144 = 12 then (if bt158.2.2 = 0 then (if bt158.1 = 2 then (if (bt158.2.1.length : Int) = 3 then (if 2 < (bt158.2.1.length : Int) then ((carillonlaw12_m.f 2 3).bind fun bt169 => (if (((rd_T38 bt158.2.1 2).f0) == bt169.1 && (((rd_T38 bt158.2.1 2).f1) == bt169.2)) = true then ((carillonlaw12_m.f 0 1).bind fun bt171 => (if (bt164.1 == bt171.1 && (bt164.2.1 == bt171.2)) = true then (if bt164.2.2 = 0 then ((view_Majority.f 1 y124).bind fun t173 => (if t173 = 2 then ((view_Common.f 1 y124 bt158.1 bt158.2.1).bind fun t174 => (if t174 = 2 then ((carillonlaw12_m.f 2 3).bind fun bt175 => ((view_Has.f k bt158.1 bt158.2.1 bt175.1 bt175.2).bind fun t177 => (some t177))) else (some false))) else (some false))) else (some false)) else (some false))) else (some false))) else (none)) else (some false)) else (some false)) else (some false)) else (some false)))) = some r := by first | (rw [hy155]; with_reducible exact H) | (have H2_ := (Option.bind_some _ _).symm.trans H; rw [hy155]; with_reducible exact H2_) | (have H2_ := (Option.bind_some _ _).symm.trans H; with_reducible exact H2_) | with_reducible exact H | (rw [hy155]; exact H) | exact H
 have Ny155 := Aside0.mk hy155
 clear hy155
 replace H := Option.bind_eq_some_iff.mp H
 obtain ⟨⟨t158, t159, t162⟩, A110, H⟩ := H
 replace H : ((view_First.f k t158 t159).bind fun bt164 => (if t144 = 12 then (if t162 = 0 then (if t158 = 2 then (if (t159.length : Int) = 3 then (if 2 < (t159.length : Int) then ((carillonlaw12_m.f 2 3).bind fun bt169 => (if (((rd_T38 t159 2).f0) == bt169.1 && (((rd_T38 t159 2).f1) == bt169.2)) = true then ((carillonlaw12_m.f 0 1).bind fun bt171 => (if (bt164.1 == bt171.1 && (bt164.2.1 == bt171.2)) = true then (if bt164.2.2 = 0 then ((view_Majority.f 1 y124).bind fun t173 => (if t173 = 2 then ((view_Common.f 1 y124 t158 t159).bind fun t174 => (if t174 = 2 then ((carillonlaw12_m.f 2 3).bind fun bt175 => ((view_Has.f k t158 t159 bt175.1 bt175.2).bind fun t177 => (some t177))) else (some false))) else (some false))) else (some false)) else (some false))) else (some false))) else (none)) else (some false)) else (some false)) else (some false)) else (some false))) = some r := H
 have A11 := Aside0.mk A110
 clear A110
 replace H := Option.bind_eq_some_iff.mp H
 obtain ⟨⟨t164, t165, t166⟩, A120, H⟩ := H
 replace H : (if t144 = 12 then (if t162 = 0 then (if t158 = 2 then (if (t159.length : Int) = 3 then (if 2 < (t159.length : Int) then ((carillonlaw12_m.f 2 3).bind fun bt169 => (if (((rd_T38 t159 2).f0) == bt169.1 && (((rd_T38 t159 2).f1) == bt169.2)) = true then ((carillonlaw12_m.f 0 1).bind fun bt171 => (if (t164 == bt171.1 && (t165 == bt171.2)) = true then (if t166 = 0 then ((view_Majority.f 1 y124).bind fun t173 => (if t173 = 2 then ((view_Common.f 1 y124 t158 t159).bind fun t174 => (if t174 = 2 then ((carillonlaw12_m.f 2 3).bind fun bt175 => ((view_Has.f k t158 t159 bt175.1 bt175.2).bind fun t177 => (some t177))) else (some false))) else (some false))) else (some false)) else (some false))) else (some false))) else (none)) else (some false)) else (some false)) else (some false)) else (some false)) = some r := H
 have A12 := Aside0.mk A120
 clear A120
 by_cases c13 : t144 = 12
 ·rw [if_pos c13] at H
  have c13b0 : (t144 == 12) = true := beq_iff_eq.mpr c13
  have c13b1 : (t144 != 12) = false := bne_eq_false_iff_eq.mpr c13
  clear c13
  by_cases c14 : t162 = 0
  ·rw [if_pos c14] at H
   have c14b0 : (t162 == 0) = true := beq_iff_eq.mpr c14
   have c14b1 : (t162 != 0) = false := bne_eq_false_iff_eq.mpr c14
   clear c14
   by_cases c15 : t158 = 2
   ·rw [if_pos c15] at H
    have c15b0 : (t158 == 2) = true := beq_iff_eq.mpr c15
    have c15b1 : (t158 != 2) = false := bne_eq_false_iff_eq.mpr c15
    clear c15
    by_cases c16 : (t159.length : Int) = 3
    ·rw [if_pos c16] at H
     have c16b0 : ((t159.length : Int) == 3) = true := beq_iff_eq.mpr c16
     have c16b1 : ((t159.length : Int) != 3) = false := bne_eq_false_iff_eq.mpr c16
     clear c16
     by_cases c17 : 2 < (t159.length : Int)
     ·rw [if_pos c17] at H
      have c17b0 : decide (2 < (t159.length : Int)) = true := decide_eq_true c17
      have c17b1 : decide (2 < t159.length) = true := decide_eq_true (by omega)
      clear c17
      replace H := Option.bind_eq_some_iff.mp H
      obtain ⟨⟨t169, t170⟩, A180, H⟩ := H
      replace H : (if (((rd_T38 t159 2).f0) == t169 && (((rd_T38 t159 2).f1) == t170)) = true then ((carillonlaw12_m.f 0 1).bind fun bt171 => (if (t164 == bt171.1 && (t165 == bt171.2)) = true then (if t166 = 0 then ((view_Majority.f 1 y124).bind fun t173 => (if t173 = 2 then ((view_Common.f 1 y124 t158 t159).bind fun t174 => (if t174 = 2 then ((carillonlaw12_m.f 2 3).bind fun bt175 => ((view_Has.f k t158 t159 bt175.1 bt175.2).bind fun t177 => (some t177))) else (some false))) else (some false))) else (some false)) else (some false))) else (some false)) = some r := H
      have A18 := Aside0.mk A180
      clear A180
      by_cases c19 : (((rd_T38 t159 2).f0) == t169 && (((rd_T38 t159 2).f1) == t170)) = true
      ·rw [if_pos c19] at H
       have c19b0 : (((rd_T38 t159 2).f0) == t169 && (((rd_T38 t159 2).f1) == t170)) = true := c19
       (try (have c19b1 : decide (((rd_T38 t159 2).f0) = t169 && (((rd_T38 t159 2).f1) == t170)) = true := by simpa using c19))
       (try (have c19b2 : (((rd_T38 t159 2).f0) == t169 && (((rd_T38 t159 2).f1) == t170)) = true := by simpa using c19))
       (try (have c19b3 : (!(((rd_T38 t159 2).f0) == t169) || (!(((rd_T38 t159 2).f1) == t170))) = false := by have e_ : (!(((rd_T38 t159 2).f0) == t169) || (!(((rd_T38 t159 2).f1) == t170))) = (!(((rd_T38 t159 2).f0) == t169 && (((rd_T38 t159 2).f1) == t170))) := (by simp only [Bool.not_or, Bool.not_and, Bool.not_not]); rw [e_]; first | (simp only [c19, Bool.not_true]; done) | (simp only [Bool.eq_false_iff.mpr c19, Bool.not_false]; done)))
       clear c19
       replace H := Option.bind_eq_some_iff.mp H
       obtain ⟨⟨t171, t172⟩, A200, H⟩ := H
       replace H : (if (t164 == t171 && (t165 == t172)) = true then (if t166 = 0 then ((view_Majority.f 1 y124).bind fun t173 => (if t173 = 2 then ((view_Common.f 1 y124 t158 t159).bind fun t174 => (if t174 = 2 then ((carillonlaw12_m.f 2 3).bind fun bt175 => ((view_Has.f k t158 t159 bt175.1 bt175.2).bind fun t177 => (some t177))) else (some false))) else (some false))) else (some false)) else (some false)) = some r := H
       have A20 := Aside0.mk A200
       clear A200
       by_cases c21 : (t164 == t171 && (t165 == t172)) = true
       ·rw [if_pos c21] at H
        have c21b0 : (t164 == t171 && (t165 == t172)) = true := c21
        (try (have c21b1 : decide (t164 = t171 && (t165 == t172)) = true := by simpa using c21))
        (try (have c21b2 : (t164 == t171 && (t165 == t172)) = true := by simpa using c21))
        (try (have c21b3 : (!(t164 == t171) || (!(t165 == t172))) = false := by have e_ : (!(t164 == t171) || (!(t165 == t172))) = (!(t164 == t171 && (t165 == t172))) := (by simp only [Bool.not_or, Bool.not_and, Bool.not_not]); rw [e_]; first | (simp only [c21, Bool.not_true]; done) | (simp only [Bool.eq_false_iff.mpr c21, Bool.not_false]; done)))
        clear c21
        by_cases c22 : t166 = 0
        ·rw [if_pos c22] at H
         have c22b0 : (t166 == 0) = true := beq_iff_eq.mpr c22
         have c22b1 : (t166 != 0) = false := bne_eq_false_iff_eq.mpr c22
         clear c22
         replace H := Option.bind_eq_some_iff.mp H
         obtain ⟨t173, A230, H⟩ := H
         replace H : (if t173 = 2 then ((view_Common.f 1 y124 t158 t159).bind fun t174 => (if t174 = 2 then ((carillonlaw12_m.f 2 3).bind fun bt175 => ((view_Has.f k t158 t159 bt175.1 bt175.2).bind fun t177 => (some t177))) else (some false))) else (some false)) = some r := H
         have A23 := Aside0.mk A230
         clear A230
         by_cases c24 : t173 = 2
         ·rw [if_pos c24] at H
          have c24b0 : (t173 == 2) = true := beq_iff_eq.mpr c24
          have c24b1 : (t173 != 2) = false := bne_eq_false_iff_eq.mpr c24
          clear c24
          replace H := Option.bind_eq_some_iff.mp H
          obtain ⟨t174, A250, H⟩ := H
          replace H : (if t174 = 2 then ((carillonlaw12_m.f 2 3).bind fun bt175 => ((view_Has.f k t158 t159 bt175.1 bt175.2).bind fun t177 => (some t177))) else (some false)) = some r := H
          have A25 := Aside0.mk A250
          clear A250
          by_cases c26 : t174 = 2
          ·rw [if_pos c26] at H
           have c26b0 : (t174 == 2) = true := beq_iff_eq.mpr c26
           have c26b1 : (t174 != 2) = false := bne_eq_false_iff_eq.mpr c26
           clear c26
           replace H := Option.bind_eq_some_iff.mp H
           obtain ⟨⟨t175, t176⟩, A270, H⟩ := H
           replace H : ((view_Has.f k t158 t159 t175 t176).bind fun t177 => (some t177)) = some r := H
           have A27 := Aside0.mk A270
           clear A270
           replace H := Option.bind_eq_some_iff.mp H
           obtain ⟨t177, A280, H⟩ := H
           replace H : (some t177) = some r := H
           have A28 := Aside0.mk A280
           clear A280
           obtain rfl := Option.some.inj H
           go_enter Tryd.func5, Tryd.ntmps5
           try go_wp2_with (first | ((with_reducible refine gate_callee (f := 11) rfl ?_); refine goesL_ (some 8) rfl rfl Tryd.func11 (by kernel_rfl) rfl #[.int .i64 0, .int .i64 1] rfl am ?_; (with_reducible refine (carillonlaw12_m.calls 0 1 t118 t119 _ A1.out).mono ?_); rintro e w29 ⟨rfl, hb⟩; refine ⟨_, rfl, ?_⟩; have n0_ := Aside0.mk (below_step bw hb); clear HB; have HB := n0_; clear n0_; (try clear hb); (try clear hb2); (try clear hk); (try clear hi)) | ((with_reducible refine gate_callee (f := 11) rfl ?_); refine goesL_ (some 9) rfl rfl Tryd.func11 (by kernel_rfl) rfl #[.int .i64 1, .int .i64 1] rfl am ?_; (with_reducible refine (carillonlaw12_m.calls 1 1 t120 t121 _ A2.out).mono ?_); rintro e w30 ⟨rfl, hb⟩; refine ⟨_, rfl, ?_⟩; have n0_ := Aside0.mk (below_step bw hb); clear HB; have HB := n0_; clear n0_; (try clear hb); (try clear hb2); (try clear hk); (try clear hi)) | ((with_reducible refine gate_callee (f := 11) rfl ?_); refine goesL_ (some 10) rfl rfl Tryd.func11 (by kernel_rfl) rfl #[.int .i64 2, .int .i64 1] rfl am ?_; (with_reducible refine (carillonlaw12_m.calls 2 1 t122 t123 _ A3.out).mono ?_); rintro e w31 ⟨rfl, hb⟩; refine ⟨_, rfl, ?_⟩; have n0_ := Aside0.mk (below_step bw hb); clear HB; have HB := n0_; clear n0_; (try clear hb); (try clear hb2); (try clear hk); (try clear hi)) | ((with_reducible refine gate_dst (N := 11) rfl ?_); (try (refine gate_guard (by rfl) ?_; dsimp only)); refine Kd.R_lit k38 _ 38 ?hg (N := 11) ?hd (xs := ([(⟨t118, t119⟩ : S38), (⟨t120, t121⟩ : S38), (⟨t122, t123⟩ : S38)] : List (S38))) (inner := [.int .i64 t118, .int .i64 t119, .int .i64 t120, .int .i64 t121, .int .i64 t122, .int .i64 t123]) (ok := fun _ => True) (okp := fun _ => True) ?hr ?hp (fun _ hk => fpk hk) trivial (Below.refl _ _) (Nat.le_refl _) (by simp) ?_; (case hd => rfl); (case hg => rfl); (case hr => first | (go_simp; done) | (go_simp; rfl)); (case hp => exact (Reps.c2 (show Kd.M k38 _ _ _ (⟨t118, t119⟩ : S38) [.int .i64 t118, .int .i64 t119] from (k38_mkM _ _ _ (⟨t118, t119⟩ : S38) )) (Reps.c2 (show Kd.M k38 _ _ _ (⟨t120, t121⟩ : S38) [.int .i64 t120, .int .i64 t121] from (k38_mkM _ _ _ (⟨t120, t121⟩ : S38) )) (Reps.c2 (show Kd.M k38 _ _ _ (⟨t122, t123⟩ : S38) [.int .i64 t122, .int .i64 t123] from (k38_mkM _ _ _ (⟨t122, t123⟩ : S38) )) (Reps.none _ _))))); intro v125 w32 ho33 hb hg_ hnew_; clear hg_ hnew_; (first | rw [← Ny124.out] at ho33 | (simp only [Int.reduceToNat] at ho33; rw [← Ny124.out] at ho33)); have n0_ := Aside0.mk (Kd.R_lower ho33 (below_size bw)); have n1_ := Aside0.mk (below_step bw hb); clear HB; have HO126 := n0_; have HB := n1_; clear n0_ n1_; clear hb ho33; obtain ⟨Ao34, co34, eo34⟩ := Kd.R_slice HO126.out; subst eo34) | ((with_reducible refine gate_dst (N := 1) rfl ?_); (try (refine gate_guard (by rfl) ?_; dsimp only)); refine box_event ?hg (N := 1) ?hd (cs := #[.int .i64 0, .slice none 0 0]) (t := 24) ?hr ?_; (case hd => rfl); (case hg => rfl); (case hr => first | (go_simp; done) | (go_simp; rfl)); intro gb127 hg w35 hbox hb; have n0_ := Aside0.mk (Kd.R_below (by (with_reducible repeat (first | apply Kd.R_alloc | apply Kd.R_drewN | apply Kd.R_drew)); first | exact HO126.out | exact Kd.R_mono HO126.out (fun _ hk => fpk hk)) hb); have n1_ := Aside0.mk (below_step bw hb); have n2_ := Aside0.mk (hbox); have n3_ := Aside0.mk ((g1 hg bw : w.heap.size ≤ gb127)); have n4_ := Aside0.mk ((g1 hg bw : w.heap.size ≤ gb127)); clear HO126; clear HB; have HO126 := n0_; have HB := n1_; have BK127 := n2_; have GW127 := n3_; have GE127 := n4_; clear n0_ n1_ n2_ n3_ n4_; clear hb hbox hg; have hcz36_0 := bc2_0 BK127.out; have hcz36_1 := bc2_1 BK127.out; have hfz36_0 := blk_frozen BK127.out 0; have hfz36_1 := blk_frozen BK127.out 1))
           have n0_ : Aside0 (Kd.R k38 38 ((w35.setCell ⟨gb127, 0, none⟩ (.int .i64 1)).setCell ⟨gb127, 1, none⟩ (.slice Ao34 y124.length co34)) w.heap.size (fun _ => True) (.slice Ao34 y124.length co34) y124) := ⟨by (with_reducible repeat (first | apply Kd.R_alloc | apply Kd.R_drewN | apply Kd.R_drew)); exact Kd.R_mono (Kd.R_far (p := ⟨gb127, 1, none⟩) (Kd.R_far (p := ⟨gb127, 0, none⟩) (Kd.R_types HO126.out BK127.out (by decide)) (fun _ hk => fpk hk) (.int .i64 1)) (fun _ hk => fpk hk) (.slice Ao34 y124.length co34)) (fun _ hk => fpk hk)⟩
           have n1_ : Aside0 (((w35.setCell ⟨gb127, 0, none⟩ (.int .i64 1)).setCell ⟨gb127, 1, none⟩ (.slice Ao34 y124.length co34)).heap[gb127]? = some (.cells #[.int .i64 1, .slice Ao34 y124.length co34] 24 (0, 0))) := ⟨by (with_reducible repeat (first | refine blk_drewN ?_ _ | refine blk_drew ?_ | refine blk_alloc ?_ _)); refine blk_put (cs := #[.int .i64 1, .slice none 0 0]) ?_ 1 _ rfl; (with_reducible repeat (first | refine blk_drewN ?_ _ | refine blk_drew ?_ | refine blk_alloc ?_ _)); refine blk_put (cs := #[.int .i64 0, .slice none 0 0]) ?_ 0 _ rfl; (with_reducible repeat (first | refine blk_drewN ?_ _ | refine blk_drew ?_ | refine blk_alloc ?_ _)); exact BK127.out⟩
           have n2_ : Aside0 (Below w.heap.size w ((w35.setCell ⟨gb127, 0, none⟩ (.int .i64 1)).setCell ⟨gb127, 1, none⟩ (.slice Ao34 y124.length co34))) := ⟨bw⟩
           (try clear HO126)
           (try clear BK127)
           (try clear HB)
           generalize ((w35.setCell ⟨gb127, 0, none⟩ (.int .i64 1)).setCell ⟨gb127, 1, none⟩ (.slice Ao34 y124.length co34)) = w37 at n0_ n1_ n2_ ⊢
           have HO126 := n0_
           have BK127 := n1_
           have HB := n2_
           clear n0_ n1_ n2_
           have n0_ := Aside0.mk (Kd.R_drew HO126.out)
           have n1_ := Aside0.mk (blk_drew BK127.out)
           have n2_ := Aside0.mk (below_drew1 HB.out)
           clear HO126
           clear BK127
           clear HB
           have HO126 := n0_
           have BK127 := n1_
           have HB := n2_
           clear n0_ n1_ n2_
           refine start_ (n := 13) (S := fun w' => True) (ds := []) #[false, false, false, false, false, false, false, false, false, false, false, false, false] (by kernel_rfl) rfl rfl trivial (fun hHeld => ?_); refine with_tabW carillonlaw12_examples.tab2 carillonlaw12_examples.bits2 (fun HT_ HW_ => ?_)
           generalize w37.drew = w38 at HO126 BK127 HB hHeld ⊢
           refine inv_at [0, 1, 2, 3, 4, 5, 6, 7, 8, 9, 10, 11, 12] (fun a0_ b a w' => ∃ (v135 : Value) (v138 : Value) (v142 : Value) (gb145 : Nat) (m6_ : Value) (m7_ : Value) (m8_ : Value) (m10_ : Value), a = putSel a0_ b [(0, 14, .agg #[.int .i64 1, .slice Ao34 y124.length co34]), (1, 15, .agg #[.int .i64 t128, .int .i64 t129]), (2, 16, .agg #[.int .i64 t130, .int .i64 t131]), (3, 17, .agg #[.int .i64 t132, .int .i64 t133]), (4, 18, v135), (5, 19, v138), (6, 20, m6_), (7, 13, m7_), (8, 21, m8_), (9, 22, .int .i64 t144), (10, 2, m10_), (12, 3, .int .i64 t144)] ∧ (Kd.R k38 38 w' w.heap.size (fun _ => True) (.slice Ao34 y124.length co34) y124) ∧ (w'.heap[gb127]? = some (.cells #[.int .i64 1, .slice Ao34 y124.length co34] 24 (0, 0))) ∧ (Below w.heap.size w w') ∧ (b 4 = true → Kd.R k38 38 w' w.heap.size (fun _ => True) v135 y134) ∧ (b 5 = true → Kd.R (Kd.int .i64) 3 w' w.heap.size (fun _ => True) v138 y137) ∧ (b 6 = true → Kd.R k38 38 w' w.heap.size (fun _ => True) v142 t141) ∧ (b 10 = true → b 11 = false → w'.heap[gb145]? = some (.cells #[.int .i64 0, .slice none 0 0] 24 (0, 0))) ∧ (b 10 = true → w.heap.size ≤ gb145) ∧ (b 10 = true → w.heap.size ≤ gb145) ∧ (b 10 = true → gb127 ≠ gb145) ∧ (b 10 = true → gb145 ≠ gb127) ∧ (b 11 = true → w'.heap[gb145]? = some (.cells #[.int .i64 t140, v142] 24 (0, 0))) ∧ (b 6 = true → (m6_ : Value) = .tuple #[.agg #[.int .i64 t140, v142], .int .i64 t144]) ∧ (b 7 = true → (m7_ : Value) = .tuple #[.agg #[.int .i64 t140, v142], .int .i64 t144]) ∧ (b 8 = true → (m8_ : Value) = .agg #[.int .i64 t140, v142]) ∧ (b 10 = true → (m10_ : Value) = .pointer (some ⟨gb145, 0, none⟩))) HT_.out HW_.out (by kernel_rfl) (by kernel_rfl) ?_ ?_ ?_
           ·exact ⟨.bool false, .bool false, .bool false, 0, .bool false, .bool false, .bool false, .bool false, by simp only [putSel, Bool.false_eq_true, if_false], HO126.out, BK127.out, HB.out, fun h_ => absurd h_ (by decide), fun h_ => absurd h_ (by decide), fun h_ => absurd h_ (by decide), fun h_ => absurd h_ (by decide), fun h_ => absurd h_ (by decide), fun h_ => absurd h_ (by decide), fun h_ => absurd h_ (by decide), fun h_ => absurd h_ (by decide), fun h_ => absurd h_ (by decide), fun h_ => absurd h_ (by decide), fun h_ => absurd h_ (by decide), fun h_ => absurd h_ (by decide), fun h_ => absurd h_ (by decide)⟩
           ·skip
            clear BK127 HB HO126
            refine steps_cons ?_ ?_
            ·rintro b a w' ⟨v135, v138, v142, gb145, m6_, m7_, m8_, m10_, ha, Q_HO126, Q_BK127, Q_HB, Q_HO136, Q_HO139, Q_HO143, Q_BK145, Q_GW145, Q_GE145, Q_NB127_145, Q_NB145_127, Q_BK145_e11, Q_X6_, Q_X7_, Q_X8_, Q_X10_⟩ hb_ hon hoff
             refine ⟨_, rfl, fun K hK => ?_⟩
             have e1 : a.tmps[1]? = some (.pointer (some ⟨gb127, 0, none⟩)) := by rw [ha]; exact (putSel_off rfl).trans rfl
             replace ha := Aside0.mk ha
             have HO126 := Aside0.mk Q_HO126
             have BK127 := Aside0.mk Q_BK127
             have HB := Aside0.mk Q_HB
             have hc0_ : w'.cell? ⟨gb127, 0, none⟩ = some (.int .i64 1) := (blk_cell BK127.out 0).trans rfl
             have hc1_ : w'.cell? ⟨gb127, 1, none⟩ = some (.slice Ao34 y124.length co34) := (blk_cell BK127.out 1).trans rfl
             refine value_ (w1 := w') (v := .agg #[.int .i64 1, .slice Ao34 y124.length co34]) (by rfl) rfl ?_ ?_
             ·go_simp
              (try simp only [i64_w])
              try rfl
             refine hK.out _ _ ⟨v135, v138, v142, gb145, m6_, m7_, m8_, m10_, (by rw [ha.out]; exact putSel_upk 0 hb_ rfl rfl rfl), Q_HO126, Q_BK127, Q_HB, Q_HO136, Q_HO139, fun h0_ => absurd ((hoff 6 (by kernel_rfl)).symm.trans h0_) (by decide), Q_BK145, Q_GW145, Q_GE145, Q_NB127_145, Q_NB145_127, fun h0_ => absurd ((hoff 11 (by kernel_rfl)).symm.trans h0_) (by decide), fun h0_ => absurd ((hoff 6 (by kernel_rfl)).symm.trans h0_) (by decide), fun h0_ => absurd ((hoff 7 (by kernel_rfl)).symm.trans h0_) (by decide), fun h0_ => absurd ((hoff 8 (by kernel_rfl)).symm.trans h0_) (by decide), Q_X10_⟩
            refine steps_cons ?_ ?_
            ·rintro b a w' ⟨v135, v138, v142, gb145, m6_, m7_, m8_, m10_, ha, Q_HO126, Q_BK127, Q_HB, Q_HO136, Q_HO139, Q_HO143, Q_BK145, Q_GW145, Q_GE145, Q_NB127_145, Q_NB145_127, Q_BK145_e11, Q_X6_, Q_X7_, Q_X8_, Q_X10_⟩ hb_ hon hoff
             refine ⟨_, rfl, fun K hK => ?_⟩
             replace ha := Aside0.mk ha
             have HO126 := Aside0.mk Q_HO126
             have BK127 := Aside0.mk Q_BK127
             have HB := Aside0.mk Q_HB
             refine goes_ Tryd.func11 (by kernel_rfl) rfl #[.int .i64 0, .int .i64 1] (by rfl) rfl rfl (by first | (simp only [List.map_toArray, List.map_cons, List.map_nil, Act.eval, Array.getD_eq_getD_getElem?, Option.getD_some]; done) | (simp only [List.map_toArray, List.map_cons, List.map_nil, Act.eval, Array.getD_eq_getD_getElem?, Option.getD_some]; rfl)) ?_
             with_reducible refine (carillonlaw12_m.calls 0 1 t128 t129 _ A4.out).mono ?_
             rintro e w39 ⟨rfl, hb⟩
             refine ⟨_, rfl, ?_⟩
             have n0_ := Aside0.mk (Kd.R_below (by (with_reducible repeat (first | apply Kd.R_alloc | apply Kd.R_drewN | apply Kd.R_drew)); first | exact HO126.out | exact Kd.R_mono HO126.out (fun _ hk => fpk hk)) hb)
             have n1_ := Aside0.mk (nb BK127.out hb)
             have n2_ := Aside0.mk (below_step bw hb)
             have z_HO139 := fun (h0_ : b 5 = true) => (show Kd.R (Kd.int .i64) 3 w39 w.heap.size (fun _ => True) v138 y137 from by first | exact (Kd.R_below (by (with_reducible repeat (first | apply Kd.R_alloc | apply Kd.R_drewN | apply Kd.R_drew)); exact (Q_HO139 h0_)) hb) | exact Kd.R_mono (Kd.R_below (by (with_reducible repeat (first | apply Kd.R_alloc | apply Kd.R_drewN | apply Kd.R_drew)); exact (Q_HO139 h0_)) hb) (fun _ h_ => by first | trivial | exact h_ | exact h_.1))
             have z_BK145 := fun (h0_ : b 10 = true) (h1_ : b 11 = false) => (show w39.heap[gb145]? = some (.cells #[.int .i64 0, .slice none 0 0] 24 (0, 0)) from by first | exact (blk_below (g := gb145) (o := .cells #[.int .i64 0, .slice none 0 0] 24 (0, 0)) (by (with_reducible repeat (first | refine blk_drewN ?_ _ | refine blk_drew ?_ | refine blk_alloc ?_ _)); exact (Q_BK145 h0_ h1_)) hb))
             clear HO126
             clear BK127
             clear HB
             have HO126 := n0_
             have BK127 := n1_
             have HB := n2_
             clear n0_ n1_ n2_
             (try clear hb)
             (try clear hb2)
             (try clear hk)
             (try clear hi)
             refine hK.out _ _ ⟨v135, v138, v142, gb145, m6_, m7_, m8_, m10_, (by rw [ha.out]; exact putSel_upk 1 hb_ rfl rfl rfl), (by (with_reducible repeat (first | apply Kd.R_alloc | apply Kd.R_drewN | apply Kd.R_drew)); first | exact HO126.out | exact Kd.R_mono HO126.out (fun _ hk => fpk hk)), (bk BK127.out), bw, fun h0_ => absurd ((hoff 4 (by kernel_rfl)).symm.trans h0_) (by decide), z_HO139, fun h0_ => absurd ((hoff 6 (by kernel_rfl)).symm.trans h0_) (by decide), z_BK145, Q_GW145, Q_GE145, Q_NB127_145, Q_NB145_127, fun h0_ => absurd ((hoff 11 (by kernel_rfl)).symm.trans h0_) (by decide), fun h0_ => absurd ((hoff 6 (by kernel_rfl)).symm.trans h0_) (by decide), fun h0_ => absurd ((hoff 7 (by kernel_rfl)).symm.trans h0_) (by decide), fun h0_ => absurd ((hoff 8 (by kernel_rfl)).symm.trans h0_) (by decide), Q_X10_⟩
            refine steps_cons ?_ ?_
            ·rintro b a w' ⟨v135, v138, v142, gb145, m6_, m7_, m8_, m10_, ha, Q_HO126, Q_BK127, Q_HB, Q_HO136, Q_HO139, Q_HO143, Q_BK145, Q_GW145, Q_GE145, Q_NB127_145, Q_NB145_127, Q_BK145_e11, Q_X6_, Q_X7_, Q_X8_, Q_X10_⟩ hb_ hon hoff
             refine ⟨_, rfl, fun K hK => ?_⟩
             replace ha := Aside0.mk ha
             have HO126 := Aside0.mk Q_HO126
             have BK127 := Aside0.mk Q_BK127
             have HB := Aside0.mk Q_HB
             refine goes_ Tryd.func11 (by kernel_rfl) rfl #[.int .i64 2, .int .i64 1] (by rfl) rfl rfl (by first | (simp only [List.map_toArray, List.map_cons, List.map_nil, Act.eval, Array.getD_eq_getD_getElem?, Option.getD_some]; done) | (simp only [List.map_toArray, List.map_cons, List.map_nil, Act.eval, Array.getD_eq_getD_getElem?, Option.getD_some]; rfl)) ?_
             with_reducible refine (carillonlaw12_m.calls 2 1 t130 t131 _ A5.out).mono ?_
             rintro e w41 ⟨rfl, hb⟩
             refine ⟨_, rfl, ?_⟩
             have n0_ := Aside0.mk (Kd.R_below (by (with_reducible repeat (first | apply Kd.R_alloc | apply Kd.R_drewN | apply Kd.R_drew)); first | exact HO126.out | exact Kd.R_mono HO126.out (fun _ hk => fpk hk)) hb)
             have n1_ := Aside0.mk (nb BK127.out hb)
             have n2_ := Aside0.mk (below_step bw hb)
             have z_HO139 := fun (h0_ : b 5 = true) => (show Kd.R (Kd.int .i64) 3 w41 w.heap.size (fun _ => True) v138 y137 from by first | exact (Kd.R_below (by (with_reducible repeat (first | apply Kd.R_alloc | apply Kd.R_drewN | apply Kd.R_drew)); exact (Q_HO139 h0_)) hb) | exact Kd.R_mono (Kd.R_below (by (with_reducible repeat (first | apply Kd.R_alloc | apply Kd.R_drewN | apply Kd.R_drew)); exact (Q_HO139 h0_)) hb) (fun _ h_ => by first | trivial | exact h_ | exact h_.1))
             have z_BK145 := fun (h0_ : b 10 = true) (h1_ : b 11 = false) => (show w41.heap[gb145]? = some (.cells #[.int .i64 0, .slice none 0 0] 24 (0, 0)) from by first | exact (blk_below (g := gb145) (o := .cells #[.int .i64 0, .slice none 0 0] 24 (0, 0)) (by (with_reducible repeat (first | refine blk_drewN ?_ _ | refine blk_drew ?_ | refine blk_alloc ?_ _)); exact (Q_BK145 h0_ h1_)) hb))
             clear HO126
             clear BK127
             clear HB
             have HO126 := n0_
             have BK127 := n1_
             have HB := n2_
             clear n0_ n1_ n2_
             (try clear hb)
             (try clear hb2)
             (try clear hk)
             (try clear hi)
             refine hK.out _ _ ⟨v135, v138, v142, gb145, m6_, m7_, m8_, m10_, (by rw [ha.out]; exact putSel_upk 2 hb_ rfl rfl rfl), (by (with_reducible repeat (first | apply Kd.R_alloc | apply Kd.R_drewN | apply Kd.R_drew)); first | exact HO126.out | exact Kd.R_mono HO126.out (fun _ hk => fpk hk)), (bk BK127.out), bw, fun h0_ => absurd ((hoff 4 (by kernel_rfl)).symm.trans h0_) (by decide), z_HO139, fun h0_ => absurd ((hoff 6 (by kernel_rfl)).symm.trans h0_) (by decide), z_BK145, Q_GW145, Q_GE145, Q_NB127_145, Q_NB145_127, fun h0_ => absurd ((hoff 11 (by kernel_rfl)).symm.trans h0_) (by decide), fun h0_ => absurd ((hoff 6 (by kernel_rfl)).symm.trans h0_) (by decide), fun h0_ => absurd ((hoff 7 (by kernel_rfl)).symm.trans h0_) (by decide), fun h0_ => absurd ((hoff 8 (by kernel_rfl)).symm.trans h0_) (by decide), Q_X10_⟩
            refine steps_cons ?_ ?_
            ·rintro b a w' ⟨v135, v138, v142, gb145, m6_, m7_, m8_, m10_, ha, Q_HO126, Q_BK127, Q_HB, Q_HO136, Q_HO139, Q_HO143, Q_BK145, Q_GW145, Q_GE145, Q_NB127_145, Q_NB145_127, Q_BK145_e11, Q_X6_, Q_X7_, Q_X8_, Q_X10_⟩ hb_ hon hoff
             refine ⟨_, rfl, fun K hK => ?_⟩
             replace ha := Aside0.mk ha
             have HO126 := Aside0.mk Q_HO126
             have BK127 := Aside0.mk Q_BK127
             have HB := Aside0.mk Q_HB
             refine goes_ Tryd.func11 (by kernel_rfl) rfl #[.int .i64 2, .int .i64 3] (by rfl) rfl rfl (by first | (simp only [List.map_toArray, List.map_cons, List.map_nil, Act.eval, Array.getD_eq_getD_getElem?, Option.getD_some]; done) | (simp only [List.map_toArray, List.map_cons, List.map_nil, Act.eval, Array.getD_eq_getD_getElem?, Option.getD_some]; rfl)) ?_
             with_reducible refine (carillonlaw12_m.calls 2 3 t132 t133 _ A6.out).mono ?_
             rintro e w42 ⟨rfl, hb⟩
             refine ⟨_, rfl, ?_⟩
             have n0_ := Aside0.mk (Kd.R_below (by (with_reducible repeat (first | apply Kd.R_alloc | apply Kd.R_drewN | apply Kd.R_drew)); first | exact HO126.out | exact Kd.R_mono HO126.out (fun _ hk => fpk hk)) hb)
             have n1_ := Aside0.mk (nb BK127.out hb)
             have n2_ := Aside0.mk (below_step bw hb)
             have z_HO139 := fun (h0_ : b 5 = true) => (show Kd.R (Kd.int .i64) 3 w42 w.heap.size (fun _ => True) v138 y137 from by first | exact (Kd.R_below (by (with_reducible repeat (first | apply Kd.R_alloc | apply Kd.R_drewN | apply Kd.R_drew)); exact (Q_HO139 h0_)) hb) | exact Kd.R_mono (Kd.R_below (by (with_reducible repeat (first | apply Kd.R_alloc | apply Kd.R_drewN | apply Kd.R_drew)); exact (Q_HO139 h0_)) hb) (fun _ h_ => by first | trivial | exact h_ | exact h_.1))
             have z_BK145 := fun (h0_ : b 10 = true) (h1_ : b 11 = false) => (show w42.heap[gb145]? = some (.cells #[.int .i64 0, .slice none 0 0] 24 (0, 0)) from by first | exact (blk_below (g := gb145) (o := .cells #[.int .i64 0, .slice none 0 0] 24 (0, 0)) (by (with_reducible repeat (first | refine blk_drewN ?_ _ | refine blk_drew ?_ | refine blk_alloc ?_ _)); exact (Q_BK145 h0_ h1_)) hb))
             clear HO126
             clear BK127
             clear HB
             have HO126 := n0_
             have BK127 := n1_
             have HB := n2_
             clear n0_ n1_ n2_
             (try clear hb)
             (try clear hb2)
             (try clear hk)
             (try clear hi)
             refine hK.out _ _ ⟨v135, v138, v142, gb145, m6_, m7_, m8_, m10_, (by rw [ha.out]; exact putSel_upk 3 hb_ rfl rfl rfl), (by (with_reducible repeat (first | apply Kd.R_alloc | apply Kd.R_drewN | apply Kd.R_drew)); first | exact HO126.out | exact Kd.R_mono HO126.out (fun _ hk => fpk hk)), (bk BK127.out), bw, fun h0_ => absurd ((hoff 4 (by kernel_rfl)).symm.trans h0_) (by decide), z_HO139, fun h0_ => absurd ((hoff 6 (by kernel_rfl)).symm.trans h0_) (by decide), z_BK145, Q_GW145, Q_GE145, Q_NB127_145, Q_NB145_127, fun h0_ => absurd ((hoff 11 (by kernel_rfl)).symm.trans h0_) (by decide), fun h0_ => absurd ((hoff 6 (by kernel_rfl)).symm.trans h0_) (by decide), fun h0_ => absurd ((hoff 7 (by kernel_rfl)).symm.trans h0_) (by decide), fun h0_ => absurd ((hoff 8 (by kernel_rfl)).symm.trans h0_) (by decide), Q_X10_⟩
            refine steps_cons ?_ ?_
            ·rintro b a w' ⟨v135, v138, v142, gb145, m6_, m7_, m8_, m10_, ha, Q_HO126, Q_BK127, Q_HB, Q_HO136, Q_HO139, Q_HO143, Q_BK145, Q_GW145, Q_GE145, Q_NB127_145, Q_NB145_127, Q_BK145_e11, Q_X6_, Q_X7_, Q_X8_, Q_X10_⟩ hb_ hon hoff
             refine ⟨_, rfl, fun K hK => ?_⟩
             have e15 : a.tmps[15]? = some (.agg #[.int .i64 t128, .int .i64 t129]) := by rw [ha]; exact putSel_on (e := (1, 15, .agg #[.int .i64 t128, .int .i64 t129])) 1 rfl rfl (hon 1 (by kernel_rfl)) rfl
             have e16 : a.tmps[16]? = some (.agg #[.int .i64 t130, .int .i64 t131]) := by rw [ha]; exact putSel_on (e := (2, 16, .agg #[.int .i64 t130, .int .i64 t131])) 2 rfl rfl (hon 2 (by kernel_rfl)) rfl
             have e17 : a.tmps[17]? = some (.agg #[.int .i64 t132, .int .i64 t133]) := by rw [ha]; exact putSel_on (e := (3, 17, .agg #[.int .i64 t132, .int .i64 t133])) 3 rfl rfl (hon 3 (by kernel_rfl)) rfl
             replace ha := Aside0.mk ha
             have HO126 := Aside0.mk Q_HO126
             have BK127 := Aside0.mk Q_BK127
             have HB := Aside0.mk Q_HB
             refine Kd.R_lit_step k38 _ 38 ?hg (N := 18) ?hd (xs := ([(⟨t128, t129⟩ : S38), (⟨t130, t131⟩ : S38), (⟨t132, t133⟩ : S38)] : List (S38))) (inner := [.int .i64 t128, .int .i64 t129, .int .i64 t130, .int .i64 t131, .int .i64 t132, .int .i64 t133]) (ok := fun _ => True) (okp := fun _ => True) ?hr ?hp (fun _ hk => fpk hk) trivial (Below.refl _ _) (Nat.le_refl _) (by simp) ?_; (case hd => rfl); (case hg => rfl); (case hr => first | (go_simp; done) | (go_simp; rfl)); (case hp => exact (Reps.c2 (show Kd.M k38 _ _ _ (⟨t128, t129⟩ : S38) [.int .i64 t128, .int .i64 t129] from (k38_mkM _ _ _ (⟨t128, t129⟩ : S38) )) (Reps.c2 (show Kd.M k38 _ _ _ (⟨t130, t131⟩ : S38) [.int .i64 t130, .int .i64 t131] from (k38_mkM _ _ _ (⟨t130, t131⟩ : S38) )) (Reps.c2 (show Kd.M k38 _ _ _ (⟨t132, t133⟩ : S38) [.int .i64 t132, .int .i64 t133] from (k38_mkM _ _ _ (⟨t132, t133⟩ : S38) )) (Reps.none _ _)))))
             intro v135 w43 ho44 hb hg_ hnew_
             clear hg_ hnew_
             (first | rw [← Ny134.out] at ho44 | (simp only [Int.reduceToNat] at ho44; rw [← Ny134.out] at ho44))
             have n0_ := Aside0.mk (Kd.R_elder' (by (with_reducible repeat (first | apply Kd.R_alloc | apply Kd.R_drewN | apply Kd.R_drew)); first | exact HO126.out | exact Kd.R_mono HO126.out (fun _ hk => fpk hk)) (Kd.R_base ho44) hb)
             have n1_ := Aside0.mk (Kd.R_lower (Kd.R_new' ho44 (Kd.R_lt (by (with_reducible repeat (first | apply Kd.R_alloc | apply Kd.R_drewN | apply Kd.R_drew)); first | exact HO126.out | exact Kd.R_mono HO126.out (fun _ hk => fpk hk)))) (below_size bw))
             have n2_ := Aside0.mk (nb BK127.out hb)
             have n3_ := Aside0.mk (below_step bw hb)
             have z_HO139 := fun (h0_ : b 5 = true) => (show Kd.R (Kd.int .i64) 3 w43 w.heap.size (fun _ => True) v138 y137 from by first | exact (Kd.R_below (by (with_reducible repeat (first | apply Kd.R_alloc | apply Kd.R_drewN | apply Kd.R_drew)); exact (Q_HO139 h0_)) hb) | exact Kd.R_mono (Kd.R_below (by (with_reducible repeat (first | apply Kd.R_alloc | apply Kd.R_drewN | apply Kd.R_drew)); exact (Q_HO139 h0_)) hb) (fun _ h_ => by first | trivial | exact h_ | exact h_.1))
             have z_BK145 := fun (h0_ : b 10 = true) (h1_ : b 11 = false) => (show w43.heap[gb145]? = some (.cells #[.int .i64 0, .slice none 0 0] 24 (0, 0)) from by first | exact (blk_below (g := gb145) (o := .cells #[.int .i64 0, .slice none 0 0] 24 (0, 0)) (by (with_reducible repeat (first | refine blk_drewN ?_ _ | refine blk_drew ?_ | refine blk_alloc ?_ _)); exact (Q_BK145 h0_ h1_)) hb))
             clear HO126
             clear BK127
             clear HB
             have HO126 := n0_
             have HO136 := n1_
             have BK127 := n2_
             have HB := n3_
             clear n0_ n1_ n2_ n3_
             clear hb ho44
             refine hK.out _ _ ⟨v135, v138, v142, gb145, m6_, m7_, m8_, m10_, (by rw [ha.out]; exact putSel_upk 4 hb_ rfl rfl rfl), (by (with_reducible repeat (first | apply Kd.R_alloc | apply Kd.R_drewN | apply Kd.R_drew)); exact Kd.R_mono HO126.out (fun _ hk => fpk hk)), (bk BK127.out), bw, fun _ => (by (with_reducible repeat (first | apply Kd.R_alloc | apply Kd.R_drewN | apply Kd.R_drew)); exact Kd.R_mono HO136.out (fun _ hk => fpk hk)), z_HO139, fun h0_ => absurd ((hoff 6 (by kernel_rfl)).symm.trans h0_) (by decide), z_BK145, Q_GW145, Q_GE145, Q_NB127_145, Q_NB145_127, fun h0_ => absurd ((hoff 11 (by kernel_rfl)).symm.trans h0_) (by decide), fun h0_ => absurd ((hoff 6 (by kernel_rfl)).symm.trans h0_) (by decide), fun h0_ => absurd ((hoff 7 (by kernel_rfl)).symm.trans h0_) (by decide), fun h0_ => absurd ((hoff 8 (by kernel_rfl)).symm.trans h0_) (by decide), Q_X10_⟩
            refine steps_cons ?_ ?_
            ·rintro b a w' ⟨v135, v138, v142, gb145, m6_, m7_, m8_, m10_, ha, Q_HO126, Q_BK127, Q_HB, Q_HO136, Q_HO139, Q_HO143, Q_BK145, Q_GW145, Q_GE145, Q_NB127_145, Q_NB145_127, Q_BK145_e11, Q_X6_, Q_X7_, Q_X8_, Q_X10_⟩ hb_ hon hoff
             refine ⟨_, rfl, fun K hK => ?_⟩
             replace ha := Aside0.mk ha
             have HO126 := Aside0.mk Q_HO126
             have BK127 := Aside0.mk Q_BK127
             have HB := Aside0.mk Q_HB
             refine Kd.R_lit_step (Kd.int .i64) _ 3 ?hg (N := 19) ?hd (xs := ([0, 1, 2] : List Int)) (inner := [.int .i64 0, .int .i64 1, .int .i64 2]) (ok := fun _ => True) (okp := fun _ => True) ?hr ?hp (fun _ hk => fpk hk) trivial (Below.refl _ _) (Nat.le_refl _) (by simp) ?_; (case hd => rfl); (case hg => rfl); (case hr => first | (go_simp; done) | (go_simp; rfl)); (case hp => exact (Reps.one (show Kd.M (Kd.int .i64) _ _ _ 0 [.int .i64 0] from rfl) (Reps.one (show Kd.M (Kd.int .i64) _ _ _ 1 [.int .i64 1] from rfl) (Reps.one (show Kd.M (Kd.int .i64) _ _ _ 2 [.int .i64 2] from rfl) (Reps.none _ _)))))
             intro v138 w39 ho40 hb hg_ hnew_
             clear hg_ hnew_
             (first | rw [← Ny137.out] at ho40 | (simp only [Int.reduceToNat] at ho40; rw [← Ny137.out] at ho40))
             have n0_ := Aside0.mk (Kd.R_below (by (with_reducible repeat (first | apply Kd.R_alloc | apply Kd.R_drewN | apply Kd.R_drew)); first | exact HO126.out | exact Kd.R_mono HO126.out (fun _ hk => fpk hk)) hb)
             have n1_ := Aside0.mk (Kd.R_lower ho40 (below_size bw))
             have n2_ := Aside0.mk (nb BK127.out hb)
             have n3_ := Aside0.mk (below_step bw hb)
             have z_HO136 := fun (h0_ : b 4 = true) => (show Kd.R k38 38 w39 w.heap.size (fun _ => True) v135 y134 from by first | exact (Kd.R_below (by (with_reducible repeat (first | apply Kd.R_alloc | apply Kd.R_drewN | apply Kd.R_drew)); exact (Q_HO136 h0_)) hb) | exact Kd.R_mono (Kd.R_below (by (with_reducible repeat (first | apply Kd.R_alloc | apply Kd.R_drewN | apply Kd.R_drew)); exact (Q_HO136 h0_)) hb) (fun _ h_ => by first | trivial | exact h_ | exact h_.1))
             have z_BK145 := fun (h0_ : b 10 = true) (h1_ : b 11 = false) => (show w39.heap[gb145]? = some (.cells #[.int .i64 0, .slice none 0 0] 24 (0, 0)) from by first | exact (blk_below (g := gb145) (o := .cells #[.int .i64 0, .slice none 0 0] 24 (0, 0)) (by (with_reducible repeat (first | refine blk_drewN ?_ _ | refine blk_drew ?_ | refine blk_alloc ?_ _)); exact (Q_BK145 h0_ h1_)) hb))
             clear HO126
             clear BK127
             clear HB
             have HO126 := n0_
             have HO139 := n1_
             have BK127 := n2_
             have HB := n3_
             clear n0_ n1_ n2_ n3_
             clear hb ho40
             refine hK.out _ _ ⟨v135, v138, v142, gb145, m6_, m7_, m8_, m10_, (by rw [ha.out]; exact putSel_upk 5 hb_ rfl rfl rfl), (by (with_reducible repeat (first | apply Kd.R_alloc | apply Kd.R_drewN | apply Kd.R_drew)); first | exact HO126.out | exact Kd.R_mono HO126.out (fun _ hk => fpk hk)), (bk BK127.out), bw, z_HO136, fun _ => (by (with_reducible repeat (first | apply Kd.R_alloc | apply Kd.R_drewN | apply Kd.R_drew)); first | exact HO139.out | exact Kd.R_mono HO139.out (fun _ hk => fpk hk)), fun h0_ => absurd ((hoff 6 (by kernel_rfl)).symm.trans h0_) (by decide), z_BK145, Q_GW145, Q_GE145, Q_NB127_145, Q_NB145_127, fun h0_ => absurd ((hoff 11 (by kernel_rfl)).symm.trans h0_) (by decide), fun h0_ => absurd ((hoff 6 (by kernel_rfl)).symm.trans h0_) (by decide), fun h0_ => absurd ((hoff 7 (by kernel_rfl)).symm.trans h0_) (by decide), fun h0_ => absurd ((hoff 8 (by kernel_rfl)).symm.trans h0_) (by decide), Q_X10_⟩
            refine steps_cons ?_ ?_
            ·rintro b a w' ⟨v135, v138, v142, gb145, m6_, m7_, m8_, m10_, ha, Q_HO126, Q_BK127, Q_HB, Q_HO136, Q_HO139, Q_HO143, Q_BK145, Q_GW145, Q_GE145, Q_NB127_145, Q_NB145_127, Q_BK145_e11, Q_X6_, Q_X7_, Q_X8_, Q_X10_⟩ hb_ hon hoff
             refine ⟨_, rfl, fun K hK => ?_⟩
             have e14 : a.tmps[14]? = some (.agg #[.int .i64 1, .slice Ao34 y124.length co34]) := by rw [ha]; exact putSel_on (e := (0, 14, .agg #[.int .i64 1, .slice Ao34 y124.length co34])) 0 rfl rfl (hon 0 (by kernel_rfl)) rfl
             have e18 : a.tmps[18]? = some (v135) := by rw [ha]; exact putSel_on (e := (4, 18, v135)) 4 rfl rfl (hon 4 (by kernel_rfl)) rfl
             have e19 : a.tmps[19]? = some (v138) := by rw [ha]; exact putSel_on (e := (5, 19, v138)) 5 rfl rfl (hon 5 (by kernel_rfl)) rfl
             replace ha := Aside0.mk ha
             have HO126 := Aside0.mk Q_HO126
             have BK127 := Aside0.mk Q_BK127
             have HB := Aside0.mk Q_HB
             have HO136 := Aside0.mk (Q_HO136 (hon 4 (by kernel_rfl)))
             have HO139 := Aside0.mk (Q_HO139 (hon 5 (by kernel_rfl)))
             obtain ⟨Ao47, co47, eo47⟩ := Kd.R_slice HO136.out
             (first | subst eo47 | (injection eo47 with f1_ f2_ f3_; have f4_ := f1_.symm; have f5_ := f3_.symm; clear f1_ f2_ f3_; subst f4_; subst f5_))
             obtain ⟨Ao48, co48, eo48⟩ := Kd.R_slice HO139.out
             (first | subst eo48 | (injection eo48 with f1_ f2_ f3_; have f4_ := f1_.symm; have f5_ := f3_.symm; clear f1_ f2_ f3_; subst f4_; subst f5_))
             refine goes_ Tryd.func12 (by kernel_rfl) rfl #[.agg #[.int .i64 1, .slice Ao34 y124.length co34], .slice Ao47 y134.length co47, .slice Ao48 y137.length co48] (by rfl) rfl rfl (by first | (simp only [List.map_toArray, List.map_cons, List.map_nil, Act.eval, Array.getD_eq_getD_getElem?, Option.getD_some, e14, e18, e19]; done) | (simp only [List.map_toArray, List.map_cons, List.map_nil, Act.eval, Array.getD_eq_getD_getElem?, Option.getD_some, e14, e18, e19]; rfl)) ?_
             with_reducible refine (view_Next.calls k 1 _ _ y124 _ _ y134 _ _ y137 t140 t141 t144 _ ?side1 ?side2 ?side3 ?side4 ?side5 ?side6 A7.out).mono ?_
             (case side1 => repeat (first | exact (Kd.R_reads' HO126.out).2.2 | (with_reducible refine Kd.C_alloc ?_ _) | (with_reducible refine Kd.C_drewN ?_ _) | (with_reducible refine Kd.C_drew ?_)))
             (case side2 => exact (Kd.R_reads' HO126.out).2.1)
             (case side3 => repeat (first | exact (Kd.R_reads' HO136.out).2.2 | (with_reducible refine Kd.C_alloc ?_ _) | (with_reducible refine Kd.C_drewN ?_ _) | (with_reducible refine Kd.C_drew ?_)))
             (case side4 => exact (Kd.R_reads' HO136.out).2.1)
             (case side5 => repeat (first | exact (Kd.R_reads' HO139.out).2.2 | (with_reducible refine Kd.C_alloc ?_ _) | (with_reducible refine Kd.C_drewN ?_ _) | (with_reducible refine Kd.C_drew ?_)))
             (case side6 => exact (Kd.R_reads' HO139.out).2.1)
             rintro e w49 ⟨v142, rfl, ho0, hb⟩
             refine ⟨_, rfl, ?_⟩
             have n0_ := Aside0.mk (Kd.R_elder' (by (with_reducible repeat (first | apply Kd.R_alloc | apply Kd.R_drewN | apply Kd.R_drew)); first | exact HO126.out | exact Kd.R_mono HO126.out (fun _ hk => fpk hk)) (Kd.R_base ho0) hb)
             have n1_ := Aside0.mk (Kd.R_elder' (by (with_reducible repeat (first | apply Kd.R_alloc | apply Kd.R_drewN | apply Kd.R_drew)); first | exact HO136.out | exact Kd.R_mono HO136.out (fun _ hk => fpk hk)) (Kd.R_base ho0) hb)
             have n2_ := Aside0.mk (Kd.R_below (by (with_reducible repeat (first | apply Kd.R_alloc | apply Kd.R_drewN | apply Kd.R_drew)); first | exact HO139.out | exact Kd.R_mono HO139.out (fun _ hk => fpk hk)) hb)
             have n3_ := Aside0.mk (Kd.R_lower (Kd.R_new' (Kd.R_new' ho0 (Kd.R_lt (by (with_reducible repeat (first | apply Kd.R_alloc | apply Kd.R_drewN | apply Kd.R_drew)); first | exact HO126.out | exact Kd.R_mono HO126.out (fun _ hk => fpk hk)))) (Kd.R_lt (by (with_reducible repeat (first | apply Kd.R_alloc | apply Kd.R_drewN | apply Kd.R_drew)); first | exact HO136.out | exact Kd.R_mono HO136.out (fun _ hk => fpk hk)))) (below_size bw))
             have n4_ := Aside0.mk (nb BK127.out hb)
             have n5_ := Aside0.mk (below_step bw hb)
             have z_BK145 := fun (h0_ : b 10 = true) (h1_ : b 11 = false) => (show w49.heap[gb145]? = some (.cells #[.int .i64 0, .slice none 0 0] 24 (0, 0)) from by first | exact (blk_below (g := gb145) (o := .cells #[.int .i64 0, .slice none 0 0] 24 (0, 0)) (by (with_reducible repeat (first | refine blk_drewN ?_ _ | refine blk_drew ?_ | refine blk_alloc ?_ _)); exact (Q_BK145 h0_ h1_)) hb))
             clear HO126
             clear HO136
             clear HO139
             clear BK127
             clear HB
             have HO126 := n0_
             have HO136 := n1_
             have HO139 := n2_
             have HO143 := n3_
             have BK127 := n4_
             have HB := n5_
             clear n0_ n1_ n2_ n3_ n4_ n5_
             (try clear hb)
             (try clear hb2)
             (try clear hk)
             (try clear hi)
             (try clear ho0)
             refine hK.out _ _ ⟨.slice Ao47 y134.length co47, .slice Ao48 y137.length co48, v142, gb145, (.tuple #[.agg #[.int .i64 t140, v142], .int .i64 t144]), m7_, m8_, m10_, (by rw [ha.out]; exact putSel_upk 6 hb_ rfl rfl rfl), (by (with_reducible repeat (first | apply Kd.R_alloc | apply Kd.R_drewN | apply Kd.R_drew)); first | exact HO126.out | exact Kd.R_mono HO126.out (fun _ hk => fpk hk)), (bk BK127.out), bw, fun _ => (by (with_reducible repeat (first | apply Kd.R_alloc | apply Kd.R_drewN | apply Kd.R_drew)); first | exact HO136.out | exact Kd.R_mono HO136.out (fun _ hk => fpk hk)), fun _ => (by (with_reducible repeat (first | apply Kd.R_alloc | apply Kd.R_drewN | apply Kd.R_drew)); first | exact HO139.out | exact Kd.R_mono HO139.out (fun _ hk => fpk hk)), fun _ => (by (with_reducible repeat (first | apply Kd.R_alloc | apply Kd.R_drewN | apply Kd.R_drew)); exact Kd.R_mono HO143.out (fun _ hk => fpk hk)), z_BK145, Q_GW145, Q_GE145, Q_NB127_145, Q_NB145_127, fun h0_ => absurd ((hoff 11 (by kernel_rfl)).symm.trans h0_) (by decide), fun _ => rfl, fun h0_ => absurd ((hoff 7 (by kernel_rfl)).symm.trans h0_) (by decide), fun h0_ => absurd ((hoff 8 (by kernel_rfl)).symm.trans h0_) (by decide), Q_X10_⟩
            refine steps_cons ?_ ?_
            ·rintro b a w' ⟨v135, v138, v142, gb145, m6_, m7_, m8_, m10_, ha, Q_HO126, Q_BK127, Q_HB, Q_HO136, Q_HO139, Q_HO143, Q_BK145, Q_GW145, Q_GE145, Q_NB127_145, Q_NB145_127, Q_BK145_e11, Q_X6_, Q_X7_, Q_X8_, Q_X10_⟩ hb_ hon hoff
             refine ⟨_, rfl, fun K hK => ?_⟩
             have e20 : a.tmps[20]? = some (m6_) := by rw [ha]; exact putSel_on (e := (6, 20, m6_)) 6 rfl rfl (hon 6 (by kernel_rfl)) rfl
             rw [Q_X6_ (hon 6 (by kernel_rfl))] at e20
             replace ha := Aside0.mk ha
             have HO126 := Aside0.mk Q_HO126
             have BK127 := Aside0.mk Q_BK127
             have HB := Aside0.mk Q_HB
             have HO136 := Aside0.mk (Q_HO136 (hon 4 (by kernel_rfl)))
             have HO139 := Aside0.mk (Q_HO139 (hon 5 (by kernel_rfl)))
             have HO143 := Aside0.mk (Q_HO143 (hon 6 (by kernel_rfl)))
             refine value_ (w1 := w') (v := .tuple #[.agg #[.int .i64 t140, v142], .int .i64 t144]) (by rfl) rfl ?_ ?_
             ·go_simp
              (try simp only [i64_w])
              try rfl
             refine hK.out _ _ ⟨v135, v138, v142, gb145, m6_, (.tuple #[.agg #[.int .i64 t140, v142], .int .i64 t144]), m8_, m10_, (by rw [ha.out]; exact putSel_upk 7 hb_ rfl rfl rfl), Q_HO126, Q_BK127, Q_HB, Q_HO136, Q_HO139, Q_HO143, Q_BK145, Q_GW145, Q_GE145, Q_NB127_145, Q_NB145_127, fun h0_ => absurd ((hoff 11 (by kernel_rfl)).symm.trans h0_) (by decide), Q_X6_, fun _ => rfl, fun h0_ => absurd ((hoff 8 (by kernel_rfl)).symm.trans h0_) (by decide), Q_X10_⟩
            refine steps_cons ?_ ?_
            ·rintro b a w' ⟨v135, v138, v142, gb145, m6_, m7_, m8_, m10_, ha, Q_HO126, Q_BK127, Q_HB, Q_HO136, Q_HO139, Q_HO143, Q_BK145, Q_GW145, Q_GE145, Q_NB127_145, Q_NB145_127, Q_BK145_e11, Q_X6_, Q_X7_, Q_X8_, Q_X10_⟩ hb_ hon hoff
             refine ⟨_, rfl, fun K hK => ?_⟩
             have e13 : a.tmps[13]? = some (m7_) := by rw [ha]; exact putSel_on (e := (7, 13, m7_)) 7 rfl rfl (hon 7 (by kernel_rfl)) rfl
             rw [Q_X7_ (hon 7 (by kernel_rfl))] at e13
             replace ha := Aside0.mk ha
             have HO126 := Aside0.mk Q_HO126
             have BK127 := Aside0.mk Q_BK127
             have HB := Aside0.mk Q_HB
             have HO136 := Aside0.mk (Q_HO136 (hon 4 (by kernel_rfl)))
             have HO139 := Aside0.mk (Q_HO139 (hon 5 (by kernel_rfl)))
             have HO143 := Aside0.mk (Q_HO143 (hon 6 (by kernel_rfl)))
             refine value_ (w1 := w') (v := .agg #[.int .i64 t140, v142]) (by rfl) rfl ?_ ?_
             ·go_simp
              (try simp only [i64_w])
              try rfl
             refine hK.out _ _ ⟨v135, v138, v142, gb145, m6_, m7_, (.agg #[.int .i64 t140, v142]), m10_, (by rw [ha.out]; exact putSel_upk 8 hb_ rfl rfl rfl), Q_HO126, Q_BK127, Q_HB, Q_HO136, Q_HO139, Q_HO143, Q_BK145, Q_GW145, Q_GE145, Q_NB127_145, Q_NB145_127, fun h0_ => absurd ((hoff 11 (by kernel_rfl)).symm.trans h0_) (by decide), Q_X6_, Q_X7_, fun _ => rfl, Q_X10_⟩
            refine steps_cons ?_ ?_
            ·rintro b a w' ⟨v135, v138, v142, gb145, m6_, m7_, m8_, m10_, ha, Q_HO126, Q_BK127, Q_HB, Q_HO136, Q_HO139, Q_HO143, Q_BK145, Q_GW145, Q_GE145, Q_NB127_145, Q_NB145_127, Q_BK145_e11, Q_X6_, Q_X7_, Q_X8_, Q_X10_⟩ hb_ hon hoff
             refine ⟨_, rfl, fun K hK => ?_⟩
             have e13 : a.tmps[13]? = some (m7_) := by rw [ha]; exact putSel_on (e := (7, 13, m7_)) 7 rfl rfl (hon 7 (by kernel_rfl)) rfl
             rw [Q_X7_ (hon 7 (by kernel_rfl))] at e13
             replace ha := Aside0.mk ha
             have HO126 := Aside0.mk Q_HO126
             have BK127 := Aside0.mk Q_BK127
             have HB := Aside0.mk Q_HB
             have HO136 := Aside0.mk (Q_HO136 (hon 4 (by kernel_rfl)))
             have HO139 := Aside0.mk (Q_HO139 (hon 5 (by kernel_rfl)))
             have HO143 := Aside0.mk (Q_HO143 (hon 6 (by kernel_rfl)))
             refine value_ (w1 := w') (v := .int .i64 t144) (by rfl) rfl ?_ ?_
             ·go_simp
              (try simp only [i64_w])
              try rfl
             refine hK.out _ _ ⟨v135, v138, v142, gb145, m6_, m7_, m8_, m10_, (by rw [ha.out]; exact putSel_upk 9 hb_ rfl rfl rfl), Q_HO126, Q_BK127, Q_HB, Q_HO136, Q_HO139, Q_HO143, Q_BK145, Q_GW145, Q_GE145, Q_NB127_145, Q_NB145_127, Q_BK145_e11, Q_X6_, Q_X7_, Q_X8_, Q_X10_⟩
            refine steps_cons ?_ ?_
            ·rintro b a w' ⟨v135, v138, v142, gb145, m6_, m7_, m8_, m10_, ha, Q_HO126, Q_BK127, Q_HB, Q_HO136, Q_HO139, Q_HO143, Q_BK145, Q_GW145, Q_GE145, Q_NB127_145, Q_NB145_127, Q_BK145_e11, Q_X6_, Q_X7_, Q_X8_, Q_X10_⟩ hb_ hon hoff
             refine ⟨_, rfl, fun K hK => ?_⟩
             replace ha := Aside0.mk ha
             have HO126 := Aside0.mk Q_HO126
             have BK127 := Aside0.mk Q_BK127
             have HB := Aside0.mk Q_HB
             refine box_step ?hg (N := 2) ?hd (cs := #[.int .i64 0, .slice none 0 0]) (t := 24) ?hr ?_; (case hd => rfl); (case hg => rfl); (case hr => first | (go_simp; done) | (go_simp; rfl))
             intro gb145 hg w39 hbox hb
             have n0_ := Aside0.mk (Kd.R_below (by (with_reducible repeat (first | apply Kd.R_alloc | apply Kd.R_drewN | apply Kd.R_drew)); first | exact HO126.out | exact Kd.R_mono HO126.out (fun _ hk => fpk hk)) hb)
             have n1_ := Aside0.mk (nb BK127.out hb)
             have n2_ := Aside0.mk (below_step bw hb)
             have n3_ := Aside0.mk (hbox)
             have n4_ := Aside0.mk ((g1 hg bw : w.heap.size ≤ gb145))
             have n5_ := Aside0.mk ((g1 hg bw : w.heap.size ≤ gb145))
             have n6_ := Aside0.mk ((n1 hg BK127.out : gb127 ≠ gb145))
             have n7_ := Aside0.mk ((n2 hg BK127.out : gb145 ≠ gb127))
             have z_HO136 := fun (h0_ : b 4 = true) => (show Kd.R k38 38 w39 w.heap.size (fun _ => True) v135 y134 from by first | exact (Kd.R_below (by (with_reducible repeat (first | apply Kd.R_alloc | apply Kd.R_drewN | apply Kd.R_drew)); exact (Q_HO136 h0_)) hb) | exact Kd.R_mono (Kd.R_below (by (with_reducible repeat (first | apply Kd.R_alloc | apply Kd.R_drewN | apply Kd.R_drew)); exact (Q_HO136 h0_)) hb) (fun _ h_ => by first | trivial | exact h_ | exact h_.1))
             have z_HO139 := fun (h0_ : b 5 = true) => (show Kd.R (Kd.int .i64) 3 w39 w.heap.size (fun _ => True) v138 y137 from by first | exact (Kd.R_below (by (with_reducible repeat (first | apply Kd.R_alloc | apply Kd.R_drewN | apply Kd.R_drew)); exact (Q_HO139 h0_)) hb) | exact Kd.R_mono (Kd.R_below (by (with_reducible repeat (first | apply Kd.R_alloc | apply Kd.R_drewN | apply Kd.R_drew)); exact (Q_HO139 h0_)) hb) (fun _ h_ => by first | trivial | exact h_ | exact h_.1))
             have z_HO143 := fun (h0_ : b 6 = true) => (show Kd.R k38 38 w39 w.heap.size (fun _ => True) v142 t141 from by first | exact (Kd.R_below (by (with_reducible repeat (first | apply Kd.R_alloc | apply Kd.R_drewN | apply Kd.R_drew)); exact (Q_HO143 h0_)) hb) | exact Kd.R_mono (Kd.R_below (by (with_reducible repeat (first | apply Kd.R_alloc | apply Kd.R_drewN | apply Kd.R_drew)); exact (Q_HO143 h0_)) hb) (fun _ h_ => by first | trivial | exact h_ | exact h_.1))
             clear HO126
             clear BK127
             clear HB
             have HO126 := n0_
             have BK127 := n1_
             have HB := n2_
             have BK145 := n3_
             have GW145 := n4_
             have GE145 := n5_
             have NB127_145 := n6_
             have NB145_127 := n7_
             clear n0_ n1_ n2_ n3_ n4_ n5_ n6_ n7_
             clear hb hbox hg
             refine hK.out _ _ ⟨v135, v138, v142, gb145, m6_, m7_, m8_, (.pointer (some ⟨gb145, 0, none⟩)), (by rw [ha.out]; exact putSel_upk 10 hb_ rfl rfl rfl), (by (with_reducible repeat (first | apply Kd.R_alloc | apply Kd.R_drewN | apply Kd.R_drew)); first | exact HO126.out | exact Kd.R_mono HO126.out (fun _ hk => fpk hk)), (bk BK127.out), bw, z_HO136, z_HO139, z_HO143, fun _ _ => (bk BK145.out), fun _ => GW145.out, fun _ => GE145.out, fun _ => NB127_145.out, fun _ => NB145_127.out, fun h0_ => absurd ((hoff 11 (by kernel_rfl)).symm.trans h0_) (by decide), Q_X6_, Q_X7_, Q_X8_, fun _ => rfl⟩
            refine steps_cons ?_ ?_
            ·rintro b a w' ⟨v135, v138, v142, gb145, m6_, m7_, m8_, m10_, ha, Q_HO126, Q_BK127, Q_HB, Q_HO136, Q_HO139, Q_HO143, Q_BK145, Q_GW145, Q_GE145, Q_NB127_145, Q_NB145_127, Q_BK145_e11, Q_X6_, Q_X7_, Q_X8_, Q_X10_⟩ hb_ hon hoff
             refine ⟨_, rfl, fun K hK => ?_⟩
             have e2 : a.tmps[2]? = some (m10_) := by rw [ha]; exact putSel_on (e := (10, 2, m10_)) 10 rfl rfl (hon 10 (by kernel_rfl)) rfl
             rw [Q_X10_ (hon 10 (by kernel_rfl))] at e2
             have e21 : a.tmps[21]? = some (m8_) := by rw [ha]; exact putSel_on (e := (8, 21, m8_)) 8 rfl rfl (hon 8 (by kernel_rfl)) rfl
             rw [Q_X8_ (hon 8 (by kernel_rfl))] at e21
             replace ha := Aside0.mk ha
             have HO126 := Aside0.mk Q_HO126
             have BK127 := Aside0.mk Q_BK127
             have HB := Aside0.mk Q_HB
             have HO136 := Aside0.mk (Q_HO136 (hon 4 (by kernel_rfl)))
             have HO139 := Aside0.mk (Q_HO139 (hon 5 (by kernel_rfl)))
             have HO143 := Aside0.mk (Q_HO143 (hon 6 (by kernel_rfl)))
             have BK145 := Aside0.mk (Q_BK145 (hon 10 (by kernel_rfl)) hb_)
             have GW145 := Aside0.mk (Q_GW145 (hon 10 (by kernel_rfl)))
             have GE145 := Aside0.mk (Q_GE145 (hon 10 (by kernel_rfl)))
             have NB127_145 := Aside0.mk (Q_NB127_145 (hon 10 (by kernel_rfl)))
             have NB145_127 := Aside0.mk (Q_NB145_127 (hon 10 (by kernel_rfl)))
             obtain ⟨Ao52, co52, eo52⟩ := Kd.R_slice HO143.out
             (first | subst eo52 | (injection eo52 with f1_ f2_ f3_; have f4_ := f1_.symm; have f5_ := f3_.symm; clear f1_ f2_ f3_; subst f4_; subst f5_))
             have hs51 : w'.cell? ⟨gb145, 0, none⟩ = some (.int .i64 0) := (blk_cell BK145.out 0).trans rfl
             have hfs51 := blk_frozen BK145.out 0
             have hns51_0 := NB127_145.out
             have hms51_0 := NB145_127.out
             have hs53 : w'.cell? ⟨gb145, 1, none⟩ = some (.slice none 0 0) := (blk_cell BK145.out 1).trans rfl
             have hfs53 := blk_frozen BK145.out 1
             have hns53_0 := NB127_145.out
             have hms53_0 := NB145_127.out
             refine skip_ (w1 := ?_) (by rfl) rfl ?_ ?_
             rotate_left
             ·go_simp
              rfl
             refine hK.out _ _ ⟨v135, v138, .slice Ao52 t141.length co52, gb145, m6_, m7_, m8_, m10_, (by rw [ha.out]; exact putSel_none (v := undef) rfl), (by (with_reducible repeat (first | apply Kd.R_alloc | apply Kd.R_drewN | apply Kd.R_drew)); exact Kd.R_mono (Kd.R_far (p := ⟨gb145, 1, none⟩) (Kd.R_far (p := ⟨gb145, 0, none⟩) (Kd.R_types HO126.out BK145.out (by decide)) (fun _ hk => fpk hk) (.int .i64 t140)) (fun _ hk => fpk hk) (.slice Ao52 t141.length co52)) (fun _ hk => fpk hk)), (by (with_reducible repeat (first | refine blk_drewN ?_ _ | refine blk_drew ?_ | refine blk_alloc ?_ _ | refine blk_far ?_ NB127_145.out _)); exact BK127.out), bw, fun _ => (by (with_reducible repeat (first | apply Kd.R_alloc | apply Kd.R_drewN | apply Kd.R_drew)); exact Kd.R_mono (Kd.R_far (p := ⟨gb145, 1, none⟩) (Kd.R_far (p := ⟨gb145, 0, none⟩) (Kd.R_types HO136.out BK145.out (by decide)) (fun _ hk => fpk hk) (.int .i64 t140)) (fun _ hk => fpk hk) (.slice Ao52 t141.length co52)) (fun _ hk => fpk hk)), fun _ => (by (with_reducible repeat (first | apply Kd.R_alloc | apply Kd.R_drewN | apply Kd.R_drew)); exact Kd.R_mono (Kd.R_far (p := ⟨gb145, 1, none⟩) (Kd.R_far (p := ⟨gb145, 0, none⟩) (Kd.R_types HO139.out BK145.out (by decide)) (fun _ hk => fpk hk) (.int .i64 t140)) (fun _ hk => fpk hk) (.slice Ao52 t141.length co52)) (fun _ hk => fpk hk)), fun _ => (by (with_reducible repeat (first | apply Kd.R_alloc | apply Kd.R_drewN | apply Kd.R_drew)); exact Kd.R_mono (Kd.R_far (p := ⟨gb145, 1, none⟩) (Kd.R_far (p := ⟨gb145, 0, none⟩) (Kd.R_types HO143.out BK145.out (by decide)) (fun _ hk => fpk hk) (.int .i64 t140)) (fun _ hk => fpk hk) (.slice Ao52 t141.length co52)) (fun _ hk => fpk hk)), fun _ h1_ => absurd ((up_self b 11).symm.trans h1_) (by decide), fun _ => GW145.out, fun _ => GE145.out, fun _ => NB127_145.out, fun _ => NB145_127.out, fun _ => (by (with_reducible repeat (first | refine blk_drewN ?_ _ | refine blk_drew ?_ | refine blk_alloc ?_ _)); refine blk_put (cs := #[.int .i64 t140, .slice none 0 0]) ?_ 1 _ rfl; (with_reducible repeat (first | refine blk_drewN ?_ _ | refine blk_drew ?_ | refine blk_alloc ?_ _)); refine blk_put (cs := #[.int .i64 0, .slice none 0 0]) ?_ 0 _ rfl; (with_reducible repeat (first | refine blk_drewN ?_ _ | refine blk_drew ?_ | refine blk_alloc ?_ _)); exact BK145.out), Q_X6_, Q_X7_, Q_X8_, Q_X10_⟩
            refine steps_cons ?_ ?_
            ·rintro b a w' ⟨v135, v138, v142, gb145, m6_, m7_, m8_, m10_, ha, Q_HO126, Q_BK127, Q_HB, Q_HO136, Q_HO139, Q_HO143, Q_BK145, Q_GW145, Q_GE145, Q_NB127_145, Q_NB145_127, Q_BK145_e11, Q_X6_, Q_X7_, Q_X8_, Q_X10_⟩ hb_ hon hoff
             refine ⟨_, rfl, fun K hK => ?_⟩
             have e22 : a.tmps[22]? = some (.int .i64 t144) := by rw [ha]; exact putSel_on (e := (9, 22, .int .i64 t144)) 9 rfl rfl (hon 9 (by kernel_rfl)) rfl
             replace ha := Aside0.mk ha
             have HO126 := Aside0.mk Q_HO126
             have BK127 := Aside0.mk Q_BK127
             have HB := Aside0.mk Q_HB
             have HO136 := Aside0.mk (Q_HO136 (hon 4 (by kernel_rfl)))
             have HO139 := Aside0.mk (Q_HO139 (hon 5 (by kernel_rfl)))
             have HO143 := Aside0.mk (Q_HO143 (hon 6 (by kernel_rfl)))
             have GW145 := Aside0.mk (Q_GW145 (hon 10 (by kernel_rfl)))
             have GE145 := Aside0.mk (Q_GE145 (hon 10 (by kernel_rfl)))
             have NB127_145 := Aside0.mk (Q_NB127_145 (hon 10 (by kernel_rfl)))
             have NB145_127 := Aside0.mk (Q_NB145_127 (hon 10 (by kernel_rfl)))
             have BK145 := Aside0.mk (Q_BK145_e11 (hon 11 (by kernel_rfl)))
             refine value_ (w1 := w') (v := .int .i64 t144) (by rfl) rfl ?_ ?_
             ·go_simp
              (try simp only [i64_w])
              try rfl
             refine hK.out _ _ ⟨v135, v138, v142, gb145, m6_, m7_, m8_, m10_, (by rw [ha.out]; exact putSel_upk 11 hb_ rfl rfl rfl), Q_HO126, Q_BK127, Q_HB, Q_HO136, Q_HO139, Q_HO143, fun _ h1_ => absurd ((hon 11 (by kernel_rfl)).symm.trans h1_) (by decide), Q_GW145, Q_GE145, Q_NB127_145, Q_NB145_127, Q_BK145_e11, Q_X6_, Q_X7_, Q_X8_, Q_X10_⟩
            exact steps_nil
           rintro b a w53 hall ⟨v135, v138, v142, gb145, m6_, m7_, m8_, m10_, ha, Q_HO126, Q_BK127, Q_HB, Q_HO136, Q_HO139, Q_HO143, Q_BK145, Q_GW145, Q_GE145, Q_NB127_145, Q_NB145_127, Q_BK145_e11, Q_X6_, Q_X7_, Q_X8_, Q_X10_⟩
           clear BK127 HB HO126
           have hb0_ := hall 0 (by kernel_rfl)
           have hb1_ := hall 1 (by kernel_rfl)
           have hb2_ := hall 2 (by kernel_rfl)
           have hb3_ := hall 3 (by kernel_rfl)
           have hb4_ := hall 4 (by kernel_rfl)
           have hb5_ := hall 5 (by kernel_rfl)
           have hb6_ := hall 6 (by kernel_rfl)
           have hb7_ := hall 7 (by kernel_rfl)
           have hb8_ := hall 8 (by kernel_rfl)
           have hb9_ := hall 9 (by kernel_rfl)
           have hb10_ := hall 10 (by kernel_rfl)
           have hb11_ := hall 11 (by kernel_rfl)
           have hb12_ := hall 12 (by kernel_rfl)
           subst ha
           obtain rfl := Q_X6_ hb6_
           obtain rfl := Q_X7_ hb7_
           obtain rfl := Q_X8_ hb8_
           obtain rfl := Q_X10_ hb10_
           simp only [putSel, hb0_, hb1_, hb2_, hb3_, hb4_, hb5_, hb6_, hb7_, hb8_, hb9_, hb10_, hb11_, hb12_, if_true, Act.put, sl1, sl2, sl3]
           have HO126 := Aside0.mk Q_HO126
           clear Q_HO126
           have BK127 := Aside0.mk Q_BK127
           clear Q_BK127
           have HB := Aside0.mk Q_HB
           clear Q_HB
           have HO136 := Aside0.mk (Q_HO136 hb4_)
           clear Q_HO136
           have HO139 := Aside0.mk (Q_HO139 hb5_)
           clear Q_HO139
           have HO143 := Aside0.mk (Q_HO143 hb6_)
           clear Q_HO143
           clear Q_BK145
           have GW145 := Aside0.mk (Q_GW145 hb10_)
           clear Q_GW145
           have GE145 := Aside0.mk (Q_GE145 hb10_)
           clear Q_GE145
           have NB127_145 := Aside0.mk (Q_NB127_145 hb10_)
           clear Q_NB127_145
           have NB145_127 := Aside0.mk (Q_NB145_127 hb10_)
           clear Q_NB145_127
           have BK145 := Aside0.mk (Q_BK145_e11 hb11_)
           clear Q_BK145_e11
           clear hall hb0_ hb1_ hb2_ hb3_ hb4_ hb5_ hb6_ hb7_ hb8_ hb9_ hb10_ hb11_ hb12_
           try go_wp2
           have n0_ := Aside0.mk (Kd.R_drew HO126.out)
           have n1_ := Aside0.mk (Kd.R_drew HO136.out)
           have n2_ := Aside0.mk (Kd.R_drew HO139.out)
           have n3_ := Aside0.mk (Kd.R_drew HO143.out)
           have n4_ := Aside0.mk (blk_drew BK127.out)
           have n5_ := Aside0.mk (blk_drew BK145.out)
           have n6_ := Aside0.mk (below_drew1 HB.out)
           clear HO126
           clear HO136
           clear HO139
           clear HO143
           clear BK127
           clear BK145
           clear HB
           have HO126 := n0_
           have HO136 := n1_
           have HO139 := n2_
           have HO143 := n3_
           have BK127 := n4_
           have BK145 := n5_
           have HB := n6_
           clear n0_ n1_ n2_ n3_ n4_ n5_ n6_
           refine start_ (n := 13) (S := fun w' => True) (ds := []) #[false, false, false, false, false, false, false, false, false, false, false, false, false] (by kernel_rfl) rfl rfl trivial (fun hHeld => ?_); refine with_tabW carillonlaw12_examples.tab3 carillonlaw12_examples.bits3 (fun HT_ HW_ => ?_)
           generalize w53.drew = w54 at HO126 HO136 HO139 HO143 BK127 BK145 HB hHeld ⊢
           refine inv_at [0, 1, 2, 3, 4, 5, 6, 7, 8, 9, 10, 11, 12] (fun a0_ b a w' => ∃ (v153 : Value) (v156 : Value) (v160 : Value) (gb163 : Nat) (m6_ : Value) (m7_ : Value) (m8_ : Value) (m10_ : Value), a = putSel a0_ b [(0, 24, .agg #[.int .i64 1, .slice Ao34 y124.length co34]), (1, 25, .agg #[.int .i64 t146, .int .i64 t147]), (2, 26, .agg #[.int .i64 t148, .int .i64 t149]), (3, 27, .agg #[.int .i64 t150, .int .i64 t151]), (4, 28, v153), (5, 29, v156), (6, 30, m6_), (7, 23, m7_), (8, 31, m8_), (9, 32, .int .i64 t162), (10, 4, m10_), (12, 5, .int .i64 t162)] ∧ (Kd.R k38 38 w' w.heap.size (fun _ => True) (.slice Ao34 y124.length co34) y124) ∧ (Kd.R k38 38 w' w.heap.size (fun _ => True) v135 y134) ∧ (Kd.R (Kd.int .i64) 3 w' w.heap.size (fun _ => True) v138 y137) ∧ (Kd.R k38 38 w' w.heap.size (fun _ => True) v142 t141) ∧ (w'.heap[gb127]? = some (.cells #[.int .i64 1, .slice Ao34 y124.length co34] 24 (0, 0))) ∧ (w'.heap[gb145]? = some (.cells #[.int .i64 t140, v142] 24 (0, 0))) ∧ (Below w.heap.size w w') ∧ (b 4 = true → Kd.R k38 38 w' w.heap.size (fun _ => True) v153 y152) ∧ (b 5 = true → Kd.R (Kd.int .i64) 3 w' w.heap.size (fun _ => True) v156 y155) ∧ (b 6 = true → Kd.R k38 38 w' w.heap.size (fun _ => True) v160 t159) ∧ (b 10 = true → b 11 = false → w'.heap[gb163]? = some (.cells #[.int .i64 0, .slice none 0 0] 24 (0, 0))) ∧ (b 10 = true → w.heap.size ≤ gb163) ∧ (b 10 = true → w.heap.size ≤ gb163) ∧ (b 10 = true → gb127 ≠ gb163) ∧ (b 10 = true → gb163 ≠ gb127) ∧ (b 10 = true → gb145 ≠ gb163) ∧ (b 10 = true → gb163 ≠ gb145) ∧ (b 11 = true → w'.heap[gb163]? = some (.cells #[.int .i64 t158, v160] 24 (0, 0))) ∧ (b 6 = true → (m6_ : Value) = .tuple #[.agg #[.int .i64 t158, v160], .int .i64 t162]) ∧ (b 7 = true → (m7_ : Value) = .tuple #[.agg #[.int .i64 t158, v160], .int .i64 t162]) ∧ (b 8 = true → (m8_ : Value) = .agg #[.int .i64 t158, v160]) ∧ (b 10 = true → (m10_ : Value) = .pointer (some ⟨gb163, 0, none⟩))) HT_.out HW_.out (by kernel_rfl) (by kernel_rfl) ?_ ?_ ?_
           ·exact ⟨.bool false, .bool false, .bool false, 0, .bool false, .bool false, .bool false, .bool false, by simp only [putSel, Bool.false_eq_true, if_false], HO126.out, HO136.out, HO139.out, HO143.out, BK127.out, BK145.out, HB.out, fun h_ => absurd h_ (by decide), fun h_ => absurd h_ (by decide), fun h_ => absurd h_ (by decide), fun h_ => absurd h_ (by decide), fun h_ => absurd h_ (by decide), fun h_ => absurd h_ (by decide), fun h_ => absurd h_ (by decide), fun h_ => absurd h_ (by decide), fun h_ => absurd h_ (by decide), fun h_ => absurd h_ (by decide), fun h_ => absurd h_ (by decide), fun h_ => absurd h_ (by decide), fun h_ => absurd h_ (by decide), fun h_ => absurd h_ (by decide), fun h_ => absurd h_ (by decide)⟩
           ·skip
            clear BK127 BK145 HB HO126 HO136 HO139 HO143
            refine steps_cons ?_ ?_
            ·rintro b a w' ⟨v153, v156, v160, gb163, m6_, m7_, m8_, m10_, ha, Q_HO126, Q_HO136, Q_HO139, Q_HO143, Q_BK127, Q_BK145, Q_HB, Q_HO154, Q_HO157, Q_HO161, Q_BK163, Q_GW163, Q_GE163, Q_NB127_163, Q_NB163_127, Q_NB145_163, Q_NB163_145, Q_BK163_e11, Q_X6_, Q_X7_, Q_X8_, Q_X10_⟩ hb_ hon hoff
             refine ⟨_, rfl, fun K hK => ?_⟩
             have e1 : a.tmps[1]? = some (.pointer (some ⟨gb127, 0, none⟩)) := by rw [ha]; exact (putSel_off rfl).trans rfl
             replace ha := Aside0.mk ha
             have HO126 := Aside0.mk Q_HO126
             have HO136 := Aside0.mk Q_HO136
             have HO139 := Aside0.mk Q_HO139
             have HO143 := Aside0.mk Q_HO143
             have BK127 := Aside0.mk Q_BK127
             have BK145 := Aside0.mk Q_BK145
             have HB := Aside0.mk Q_HB
             have hc0_ : w'.cell? ⟨gb127, 0, none⟩ = some (.int .i64 1) := (blk_cell BK127.out 0).trans rfl
             have hc1_ : w'.cell? ⟨gb127, 1, none⟩ = some (.slice Ao34 y124.length co34) := (blk_cell BK127.out 1).trans rfl
             refine value_ (w1 := w') (v := .agg #[.int .i64 1, .slice Ao34 y124.length co34]) (by rfl) rfl ?_ ?_
             ·go_simp
              (try simp only [i64_w])
              try rfl
             refine hK.out _ _ ⟨v153, v156, v160, gb163, m6_, m7_, m8_, m10_, (by rw [ha.out]; exact putSel_upk 0 hb_ rfl rfl rfl), Q_HO126, Q_HO136, Q_HO139, Q_HO143, Q_BK127, Q_BK145, Q_HB, Q_HO154, Q_HO157, fun h0_ => absurd ((hoff 6 (by kernel_rfl)).symm.trans h0_) (by decide), Q_BK163, Q_GW163, Q_GE163, Q_NB127_163, Q_NB163_127, Q_NB145_163, Q_NB163_145, fun h0_ => absurd ((hoff 11 (by kernel_rfl)).symm.trans h0_) (by decide), fun h0_ => absurd ((hoff 6 (by kernel_rfl)).symm.trans h0_) (by decide), fun h0_ => absurd ((hoff 7 (by kernel_rfl)).symm.trans h0_) (by decide), fun h0_ => absurd ((hoff 8 (by kernel_rfl)).symm.trans h0_) (by decide), Q_X10_⟩
            refine steps_cons ?_ ?_
            ·rintro b a w' ⟨v153, v156, v160, gb163, m6_, m7_, m8_, m10_, ha, Q_HO126, Q_HO136, Q_HO139, Q_HO143, Q_BK127, Q_BK145, Q_HB, Q_HO154, Q_HO157, Q_HO161, Q_BK163, Q_GW163, Q_GE163, Q_NB127_163, Q_NB163_127, Q_NB145_163, Q_NB163_145, Q_BK163_e11, Q_X6_, Q_X7_, Q_X8_, Q_X10_⟩ hb_ hon hoff
             refine ⟨_, rfl, fun K hK => ?_⟩
             replace ha := Aside0.mk ha
             have HO126 := Aside0.mk Q_HO126
             have HO136 := Aside0.mk Q_HO136
             have HO139 := Aside0.mk Q_HO139
             have HO143 := Aside0.mk Q_HO143
             have BK127 := Aside0.mk Q_BK127
             have BK145 := Aside0.mk Q_BK145
             have HB := Aside0.mk Q_HB
             refine goes_ Tryd.func11 (by kernel_rfl) rfl #[.int .i64 0, .int .i64 1] (by rfl) rfl rfl (by first | (simp only [List.map_toArray, List.map_cons, List.map_nil, Act.eval, Array.getD_eq_getD_getElem?, Option.getD_some]; done) | (simp only [List.map_toArray, List.map_cons, List.map_nil, Act.eval, Array.getD_eq_getD_getElem?, Option.getD_some]; rfl)) ?_
             with_reducible refine (carillonlaw12_m.calls 0 1 t146 t147 _ A8.out).mono ?_
             rintro e w55 ⟨rfl, hb⟩
             refine ⟨_, rfl, ?_⟩
             have n0_ := Aside0.mk (Kd.R_below (by (with_reducible repeat (first | apply Kd.R_alloc | apply Kd.R_drewN | apply Kd.R_drew)); first | exact HO126.out | exact Kd.R_mono HO126.out (fun _ hk => fpk hk)) hb)
             have n1_ := Aside0.mk (Kd.R_below (by (with_reducible repeat (first | apply Kd.R_alloc | apply Kd.R_drewN | apply Kd.R_drew)); first | exact HO136.out | exact Kd.R_mono HO136.out (fun _ hk => fpk hk)) hb)
             have n2_ := Aside0.mk (Kd.R_below (by (with_reducible repeat (first | apply Kd.R_alloc | apply Kd.R_drewN | apply Kd.R_drew)); first | exact HO139.out | exact Kd.R_mono HO139.out (fun _ hk => fpk hk)) hb)
             have n3_ := Aside0.mk (Kd.R_below (by (with_reducible repeat (first | apply Kd.R_alloc | apply Kd.R_drewN | apply Kd.R_drew)); first | exact HO143.out | exact Kd.R_mono HO143.out (fun _ hk => fpk hk)) hb)
             have n4_ := Aside0.mk (nb BK127.out hb)
             have n5_ := Aside0.mk (nb BK145.out hb)
             have n6_ := Aside0.mk (below_step bw hb)
             have z_HO157 := fun (h0_ : b 5 = true) => (show Kd.R (Kd.int .i64) 3 w55 w.heap.size (fun _ => True) v156 y155 from by first | exact (Kd.R_below (by (with_reducible repeat (first | apply Kd.R_alloc | apply Kd.R_drewN | apply Kd.R_drew)); exact (Q_HO157 h0_)) hb) | exact Kd.R_mono (Kd.R_below (by (with_reducible repeat (first | apply Kd.R_alloc | apply Kd.R_drewN | apply Kd.R_drew)); exact (Q_HO157 h0_)) hb) (fun _ h_ => by first | trivial | exact h_ | exact h_.1))
             have z_BK163 := fun (h0_ : b 10 = true) (h1_ : b 11 = false) => (show w55.heap[gb163]? = some (.cells #[.int .i64 0, .slice none 0 0] 24 (0, 0)) from by first | exact (blk_below (g := gb163) (o := .cells #[.int .i64 0, .slice none 0 0] 24 (0, 0)) (by (with_reducible repeat (first | refine blk_drewN ?_ _ | refine blk_drew ?_ | refine blk_alloc ?_ _)); exact (Q_BK163 h0_ h1_)) hb))
             clear HO126
             clear HO136
             clear HO139
             clear HO143
             clear BK127
             clear BK145
             clear HB
             have HO126 := n0_
             have HO136 := n1_
             have HO139 := n2_
             have HO143 := n3_
             have BK127 := n4_
             have BK145 := n5_
             have HB := n6_
             clear n0_ n1_ n2_ n3_ n4_ n5_ n6_
             (try clear hb)
             (try clear hb2)
             (try clear hk)
             (try clear hi)
             refine hK.out _ _ ⟨v153, v156, v160, gb163, m6_, m7_, m8_, m10_, (by rw [ha.out]; exact putSel_upk 1 hb_ rfl rfl rfl), (by (with_reducible repeat (first | apply Kd.R_alloc | apply Kd.R_drewN | apply Kd.R_drew)); first | exact HO126.out | exact Kd.R_mono HO126.out (fun _ hk => fpk hk)), (by (with_reducible repeat (first | apply Kd.R_alloc | apply Kd.R_drewN | apply Kd.R_drew)); first | exact HO136.out | exact Kd.R_mono HO136.out (fun _ hk => fpk hk)), (by (with_reducible repeat (first | apply Kd.R_alloc | apply Kd.R_drewN | apply Kd.R_drew)); first | exact HO139.out | exact Kd.R_mono HO139.out (fun _ hk => fpk hk)), (by (with_reducible repeat (first | apply Kd.R_alloc | apply Kd.R_drewN | apply Kd.R_drew)); first | exact HO143.out | exact Kd.R_mono HO143.out (fun _ hk => fpk hk)), (bk BK127.out), (bk BK145.out), bw, fun h0_ => absurd ((hoff 4 (by kernel_rfl)).symm.trans h0_) (by decide), z_HO157, fun h0_ => absurd ((hoff 6 (by kernel_rfl)).symm.trans h0_) (by decide), z_BK163, Q_GW163, Q_GE163, Q_NB127_163, Q_NB163_127, Q_NB145_163, Q_NB163_145, fun h0_ => absurd ((hoff 11 (by kernel_rfl)).symm.trans h0_) (by decide), fun h0_ => absurd ((hoff 6 (by kernel_rfl)).symm.trans h0_) (by decide), fun h0_ => absurd ((hoff 7 (by kernel_rfl)).symm.trans h0_) (by decide), fun h0_ => absurd ((hoff 8 (by kernel_rfl)).symm.trans h0_) (by decide), Q_X10_⟩
            refine steps_cons ?_ ?_
            ·rintro b a w' ⟨v153, v156, v160, gb163, m6_, m7_, m8_, m10_, ha, Q_HO126, Q_HO136, Q_HO139, Q_HO143, Q_BK127, Q_BK145, Q_HB, Q_HO154, Q_HO157, Q_HO161, Q_BK163, Q_GW163, Q_GE163, Q_NB127_163, Q_NB163_127, Q_NB145_163, Q_NB163_145, Q_BK163_e11, Q_X6_, Q_X7_, Q_X8_, Q_X10_⟩ hb_ hon hoff
             refine ⟨_, rfl, fun K hK => ?_⟩
             replace ha := Aside0.mk ha
             have HO126 := Aside0.mk Q_HO126
             have HO136 := Aside0.mk Q_HO136
             have HO139 := Aside0.mk Q_HO139
             have HO143 := Aside0.mk Q_HO143
             have BK127 := Aside0.mk Q_BK127
             have BK145 := Aside0.mk Q_BK145
             have HB := Aside0.mk Q_HB
             refine goes_ Tryd.func11 (by kernel_rfl) rfl #[.int .i64 1, .int .i64 1] (by rfl) rfl rfl (by first | (simp only [List.map_toArray, List.map_cons, List.map_nil, Act.eval, Array.getD_eq_getD_getElem?, Option.getD_some]; done) | (simp only [List.map_toArray, List.map_cons, List.map_nil, Act.eval, Array.getD_eq_getD_getElem?, Option.getD_some]; rfl)) ?_
             with_reducible refine (carillonlaw12_m.calls 1 1 t148 t149 _ A9.out).mono ?_
             rintro e w57 ⟨rfl, hb⟩
             refine ⟨_, rfl, ?_⟩
             have n0_ := Aside0.mk (Kd.R_below (by (with_reducible repeat (first | apply Kd.R_alloc | apply Kd.R_drewN | apply Kd.R_drew)); first | exact HO126.out | exact Kd.R_mono HO126.out (fun _ hk => fpk hk)) hb)
             have n1_ := Aside0.mk (Kd.R_below (by (with_reducible repeat (first | apply Kd.R_alloc | apply Kd.R_drewN | apply Kd.R_drew)); first | exact HO136.out | exact Kd.R_mono HO136.out (fun _ hk => fpk hk)) hb)
             have n2_ := Aside0.mk (Kd.R_below (by (with_reducible repeat (first | apply Kd.R_alloc | apply Kd.R_drewN | apply Kd.R_drew)); first | exact HO139.out | exact Kd.R_mono HO139.out (fun _ hk => fpk hk)) hb)
             have n3_ := Aside0.mk (Kd.R_below (by (with_reducible repeat (first | apply Kd.R_alloc | apply Kd.R_drewN | apply Kd.R_drew)); first | exact HO143.out | exact Kd.R_mono HO143.out (fun _ hk => fpk hk)) hb)
             have n4_ := Aside0.mk (nb BK127.out hb)
             have n5_ := Aside0.mk (nb BK145.out hb)
             have n6_ := Aside0.mk (below_step bw hb)
             have z_HO157 := fun (h0_ : b 5 = true) => (show Kd.R (Kd.int .i64) 3 w57 w.heap.size (fun _ => True) v156 y155 from by first | exact (Kd.R_below (by (with_reducible repeat (first | apply Kd.R_alloc | apply Kd.R_drewN | apply Kd.R_drew)); exact (Q_HO157 h0_)) hb) | exact Kd.R_mono (Kd.R_below (by (with_reducible repeat (first | apply Kd.R_alloc | apply Kd.R_drewN | apply Kd.R_drew)); exact (Q_HO157 h0_)) hb) (fun _ h_ => by first | trivial | exact h_ | exact h_.1))
             have z_BK163 := fun (h0_ : b 10 = true) (h1_ : b 11 = false) => (show w57.heap[gb163]? = some (.cells #[.int .i64 0, .slice none 0 0] 24 (0, 0)) from by first | exact (blk_below (g := gb163) (o := .cells #[.int .i64 0, .slice none 0 0] 24 (0, 0)) (by (with_reducible repeat (first | refine blk_drewN ?_ _ | refine blk_drew ?_ | refine blk_alloc ?_ _)); exact (Q_BK163 h0_ h1_)) hb))
             clear HO126
             clear HO136
             clear HO139
             clear HO143
             clear BK127
             clear BK145
             clear HB
             have HO126 := n0_
             have HO136 := n1_
             have HO139 := n2_
             have HO143 := n3_
             have BK127 := n4_
             have BK145 := n5_
             have HB := n6_
             clear n0_ n1_ n2_ n3_ n4_ n5_ n6_
             (try clear hb)
             (try clear hb2)
             (try clear hk)
             (try clear hi)
             refine hK.out _ _ ⟨v153, v156, v160, gb163, m6_, m7_, m8_, m10_, (by rw [ha.out]; exact putSel_upk 2 hb_ rfl rfl rfl), (by (with_reducible repeat (first | apply Kd.R_alloc | apply Kd.R_drewN | apply Kd.R_drew)); first | exact HO126.out | exact Kd.R_mono HO126.out (fun _ hk => fpk hk)), (by (with_reducible repeat (first | apply Kd.R_alloc | apply Kd.R_drewN | apply Kd.R_drew)); first | exact HO136.out | exact Kd.R_mono HO136.out (fun _ hk => fpk hk)), (by (with_reducible repeat (first | apply Kd.R_alloc | apply Kd.R_drewN | apply Kd.R_drew)); first | exact HO139.out | exact Kd.R_mono HO139.out (fun _ hk => fpk hk)), (by (with_reducible repeat (first | apply Kd.R_alloc | apply Kd.R_drewN | apply Kd.R_drew)); first | exact HO143.out | exact Kd.R_mono HO143.out (fun _ hk => fpk hk)), (bk BK127.out), (bk BK145.out), bw, fun h0_ => absurd ((hoff 4 (by kernel_rfl)).symm.trans h0_) (by decide), z_HO157, fun h0_ => absurd ((hoff 6 (by kernel_rfl)).symm.trans h0_) (by decide), z_BK163, Q_GW163, Q_GE163, Q_NB127_163, Q_NB163_127, Q_NB145_163, Q_NB163_145, fun h0_ => absurd ((hoff 11 (by kernel_rfl)).symm.trans h0_) (by decide), fun h0_ => absurd ((hoff 6 (by kernel_rfl)).symm.trans h0_) (by decide), fun h0_ => absurd ((hoff 7 (by kernel_rfl)).symm.trans h0_) (by decide), fun h0_ => absurd ((hoff 8 (by kernel_rfl)).symm.trans h0_) (by decide), Q_X10_⟩
            refine steps_cons ?_ ?_
            ·rintro b a w' ⟨v153, v156, v160, gb163, m6_, m7_, m8_, m10_, ha, Q_HO126, Q_HO136, Q_HO139, Q_HO143, Q_BK127, Q_BK145, Q_HB, Q_HO154, Q_HO157, Q_HO161, Q_BK163, Q_GW163, Q_GE163, Q_NB127_163, Q_NB163_127, Q_NB145_163, Q_NB163_145, Q_BK163_e11, Q_X6_, Q_X7_, Q_X8_, Q_X10_⟩ hb_ hon hoff
             refine ⟨_, rfl, fun K hK => ?_⟩
             replace ha := Aside0.mk ha
             have HO126 := Aside0.mk Q_HO126
             have HO136 := Aside0.mk Q_HO136
             have HO139 := Aside0.mk Q_HO139
             have HO143 := Aside0.mk Q_HO143
             have BK127 := Aside0.mk Q_BK127
             have BK145 := Aside0.mk Q_BK145
             have HB := Aside0.mk Q_HB
             refine goes_ Tryd.func11 (by kernel_rfl) rfl #[.int .i64 2, .int .i64 3] (by rfl) rfl rfl (by first | (simp only [List.map_toArray, List.map_cons, List.map_nil, Act.eval, Array.getD_eq_getD_getElem?, Option.getD_some]; done) | (simp only [List.map_toArray, List.map_cons, List.map_nil, Act.eval, Array.getD_eq_getD_getElem?, Option.getD_some]; rfl)) ?_
             with_reducible refine (carillonlaw12_m.calls 2 3 t150 t151 _ A10.out).mono ?_
             rintro e w58 ⟨rfl, hb⟩
             refine ⟨_, rfl, ?_⟩
             have n0_ := Aside0.mk (Kd.R_below (by (with_reducible repeat (first | apply Kd.R_alloc | apply Kd.R_drewN | apply Kd.R_drew)); first | exact HO126.out | exact Kd.R_mono HO126.out (fun _ hk => fpk hk)) hb)
             have n1_ := Aside0.mk (Kd.R_below (by (with_reducible repeat (first | apply Kd.R_alloc | apply Kd.R_drewN | apply Kd.R_drew)); first | exact HO136.out | exact Kd.R_mono HO136.out (fun _ hk => fpk hk)) hb)
             have n2_ := Aside0.mk (Kd.R_below (by (with_reducible repeat (first | apply Kd.R_alloc | apply Kd.R_drewN | apply Kd.R_drew)); first | exact HO139.out | exact Kd.R_mono HO139.out (fun _ hk => fpk hk)) hb)
             have n3_ := Aside0.mk (Kd.R_below (by (with_reducible repeat (first | apply Kd.R_alloc | apply Kd.R_drewN | apply Kd.R_drew)); first | exact HO143.out | exact Kd.R_mono HO143.out (fun _ hk => fpk hk)) hb)
             have n4_ := Aside0.mk (nb BK127.out hb)
             have n5_ := Aside0.mk (nb BK145.out hb)
             have n6_ := Aside0.mk (below_step bw hb)
             have z_HO157 := fun (h0_ : b 5 = true) => (show Kd.R (Kd.int .i64) 3 w58 w.heap.size (fun _ => True) v156 y155 from by first | exact (Kd.R_below (by (with_reducible repeat (first | apply Kd.R_alloc | apply Kd.R_drewN | apply Kd.R_drew)); exact (Q_HO157 h0_)) hb) | exact Kd.R_mono (Kd.R_below (by (with_reducible repeat (first | apply Kd.R_alloc | apply Kd.R_drewN | apply Kd.R_drew)); exact (Q_HO157 h0_)) hb) (fun _ h_ => by first | trivial | exact h_ | exact h_.1))
             have z_BK163 := fun (h0_ : b 10 = true) (h1_ : b 11 = false) => (show w58.heap[gb163]? = some (.cells #[.int .i64 0, .slice none 0 0] 24 (0, 0)) from by first | exact (blk_below (g := gb163) (o := .cells #[.int .i64 0, .slice none 0 0] 24 (0, 0)) (by (with_reducible repeat (first | refine blk_drewN ?_ _ | refine blk_drew ?_ | refine blk_alloc ?_ _)); exact (Q_BK163 h0_ h1_)) hb))
             clear HO126
             clear HO136
             clear HO139
             clear HO143
             clear BK127
             clear BK145
             clear HB
             have HO126 := n0_
             have HO136 := n1_
             have HO139 := n2_
             have HO143 := n3_
             have BK127 := n4_
             have BK145 := n5_
             have HB := n6_
             clear n0_ n1_ n2_ n3_ n4_ n5_ n6_
             (try clear hb)
             (try clear hb2)
             (try clear hk)
             (try clear hi)
             refine hK.out _ _ ⟨v153, v156, v160, gb163, m6_, m7_, m8_, m10_, (by rw [ha.out]; exact putSel_upk 3 hb_ rfl rfl rfl), (by (with_reducible repeat (first | apply Kd.R_alloc | apply Kd.R_drewN | apply Kd.R_drew)); first | exact HO126.out | exact Kd.R_mono HO126.out (fun _ hk => fpk hk)), (by (with_reducible repeat (first | apply Kd.R_alloc | apply Kd.R_drewN | apply Kd.R_drew)); first | exact HO136.out | exact Kd.R_mono HO136.out (fun _ hk => fpk hk)), (by (with_reducible repeat (first | apply Kd.R_alloc | apply Kd.R_drewN | apply Kd.R_drew)); first | exact HO139.out | exact Kd.R_mono HO139.out (fun _ hk => fpk hk)), (by (with_reducible repeat (first | apply Kd.R_alloc | apply Kd.R_drewN | apply Kd.R_drew)); first | exact HO143.out | exact Kd.R_mono HO143.out (fun _ hk => fpk hk)), (bk BK127.out), (bk BK145.out), bw, fun h0_ => absurd ((hoff 4 (by kernel_rfl)).symm.trans h0_) (by decide), z_HO157, fun h0_ => absurd ((hoff 6 (by kernel_rfl)).symm.trans h0_) (by decide), z_BK163, Q_GW163, Q_GE163, Q_NB127_163, Q_NB163_127, Q_NB145_163, Q_NB163_145, fun h0_ => absurd ((hoff 11 (by kernel_rfl)).symm.trans h0_) (by decide), fun h0_ => absurd ((hoff 6 (by kernel_rfl)).symm.trans h0_) (by decide), fun h0_ => absurd ((hoff 7 (by kernel_rfl)).symm.trans h0_) (by decide), fun h0_ => absurd ((hoff 8 (by kernel_rfl)).symm.trans h0_) (by decide), Q_X10_⟩
            refine steps_cons ?_ ?_
            ·rintro b a w' ⟨v153, v156, v160, gb163, m6_, m7_, m8_, m10_, ha, Q_HO126, Q_HO136, Q_HO139, Q_HO143, Q_BK127, Q_BK145, Q_HB, Q_HO154, Q_HO157, Q_HO161, Q_BK163, Q_GW163, Q_GE163, Q_NB127_163, Q_NB163_127, Q_NB145_163, Q_NB163_145, Q_BK163_e11, Q_X6_, Q_X7_, Q_X8_, Q_X10_⟩ hb_ hon hoff
             refine ⟨_, rfl, fun K hK => ?_⟩
             have e25 : a.tmps[25]? = some (.agg #[.int .i64 t146, .int .i64 t147]) := by rw [ha]; exact putSel_on (e := (1, 25, .agg #[.int .i64 t146, .int .i64 t147])) 1 rfl rfl (hon 1 (by kernel_rfl)) rfl
             have e26 : a.tmps[26]? = some (.agg #[.int .i64 t148, .int .i64 t149]) := by rw [ha]; exact putSel_on (e := (2, 26, .agg #[.int .i64 t148, .int .i64 t149])) 2 rfl rfl (hon 2 (by kernel_rfl)) rfl
             have e27 : a.tmps[27]? = some (.agg #[.int .i64 t150, .int .i64 t151]) := by rw [ha]; exact putSel_on (e := (3, 27, .agg #[.int .i64 t150, .int .i64 t151])) 3 rfl rfl (hon 3 (by kernel_rfl)) rfl
             replace ha := Aside0.mk ha
             have HO126 := Aside0.mk Q_HO126
             have HO136 := Aside0.mk Q_HO136
             have HO139 := Aside0.mk Q_HO139
             have HO143 := Aside0.mk Q_HO143
             have BK127 := Aside0.mk Q_BK127
             have BK145 := Aside0.mk Q_BK145
             have HB := Aside0.mk Q_HB
             refine Kd.R_lit_step k38 _ 38 ?hg (N := 28) ?hd (xs := ([(⟨t146, t147⟩ : S38), (⟨t148, t149⟩ : S38), (⟨t150, t151⟩ : S38)] : List (S38))) (inner := [.int .i64 t146, .int .i64 t147, .int .i64 t148, .int .i64 t149, .int .i64 t150, .int .i64 t151]) (ok := fun _ => True) (okp := fun _ => True) ?hr ?hp (fun _ hk => fpk hk) trivial (Below.refl _ _) (Nat.le_refl _) (by simp) ?_; (case hd => rfl); (case hg => rfl); (case hr => first | (go_simp; done) | (go_simp; rfl)); (case hp => exact (Reps.c2 (show Kd.M k38 _ _ _ (⟨t146, t147⟩ : S38) [.int .i64 t146, .int .i64 t147] from (k38_mkM _ _ _ (⟨t146, t147⟩ : S38) )) (Reps.c2 (show Kd.M k38 _ _ _ (⟨t148, t149⟩ : S38) [.int .i64 t148, .int .i64 t149] from (k38_mkM _ _ _ (⟨t148, t149⟩ : S38) )) (Reps.c2 (show Kd.M k38 _ _ _ (⟨t150, t151⟩ : S38) [.int .i64 t150, .int .i64 t151] from (k38_mkM _ _ _ (⟨t150, t151⟩ : S38) )) (Reps.none _ _)))))
             intro v153 w59 ho60 hb hg_ hnew_
             clear hg_ hnew_
             (first | rw [← Ny152.out] at ho60 | (simp only [Int.reduceToNat] at ho60; rw [← Ny152.out] at ho60))
             have n0_ := Aside0.mk (Kd.R_elder' (by (with_reducible repeat (first | apply Kd.R_alloc | apply Kd.R_drewN | apply Kd.R_drew)); first | exact HO126.out | exact Kd.R_mono HO126.out (fun _ hk => fpk hk)) (Kd.R_base ho60) hb)
             have n1_ := Aside0.mk (Kd.R_elder' (by (with_reducible repeat (first | apply Kd.R_alloc | apply Kd.R_drewN | apply Kd.R_drew)); first | exact HO136.out | exact Kd.R_mono HO136.out (fun _ hk => fpk hk)) (Kd.R_base ho60) hb)
             have n2_ := Aside0.mk (Kd.R_below (by (with_reducible repeat (first | apply Kd.R_alloc | apply Kd.R_drewN | apply Kd.R_drew)); first | exact HO139.out | exact Kd.R_mono HO139.out (fun _ hk => fpk hk)) hb)
             have n3_ := Aside0.mk (Kd.R_elder' (by (with_reducible repeat (first | apply Kd.R_alloc | apply Kd.R_drewN | apply Kd.R_drew)); first | exact HO143.out | exact Kd.R_mono HO143.out (fun _ hk => fpk hk)) (Kd.R_base ho60) hb)
             have n4_ := Aside0.mk (Kd.R_lower (Kd.R_new' (Kd.R_new' (Kd.R_new' ho60 (Kd.R_lt (by (with_reducible repeat (first | apply Kd.R_alloc | apply Kd.R_drewN | apply Kd.R_drew)); first | exact HO126.out | exact Kd.R_mono HO126.out (fun _ hk => fpk hk)))) (Kd.R_lt (by (with_reducible repeat (first | apply Kd.R_alloc | apply Kd.R_drewN | apply Kd.R_drew)); first | exact HO136.out | exact Kd.R_mono HO136.out (fun _ hk => fpk hk)))) (Kd.R_lt (by (with_reducible repeat (first | apply Kd.R_alloc | apply Kd.R_drewN | apply Kd.R_drew)); first | exact HO143.out | exact Kd.R_mono HO143.out (fun _ hk => fpk hk)))) (below_size bw))
             have n5_ := Aside0.mk (nb BK127.out hb)
             have n6_ := Aside0.mk (nb BK145.out hb)
             have n7_ := Aside0.mk (below_step bw hb)
             have z_HO157 := fun (h0_ : b 5 = true) => (show Kd.R (Kd.int .i64) 3 w59 w.heap.size (fun _ => True) v156 y155 from by first | exact (Kd.R_below (by (with_reducible repeat (first | apply Kd.R_alloc | apply Kd.R_drewN | apply Kd.R_drew)); exact (Q_HO157 h0_)) hb) | exact Kd.R_mono (Kd.R_below (by (with_reducible repeat (first | apply Kd.R_alloc | apply Kd.R_drewN | apply Kd.R_drew)); exact (Q_HO157 h0_)) hb) (fun _ h_ => by first | trivial | exact h_ | exact h_.1))
             have z_BK163 := fun (h0_ : b 10 = true) (h1_ : b 11 = false) => (show w59.heap[gb163]? = some (.cells #[.int .i64 0, .slice none 0 0] 24 (0, 0)) from by first | exact (blk_below (g := gb163) (o := .cells #[.int .i64 0, .slice none 0 0] 24 (0, 0)) (by (with_reducible repeat (first | refine blk_drewN ?_ _ | refine blk_drew ?_ | refine blk_alloc ?_ _)); exact (Q_BK163 h0_ h1_)) hb))
             clear HO126
             clear HO136
             clear HO139
             clear HO143
             clear BK127
             clear BK145
             clear HB
             have HO126 := n0_
             have HO136 := n1_
             have HO139 := n2_
             have HO143 := n3_
             have HO154 := n4_
             have BK127 := n5_
             have BK145 := n6_
             have HB := n7_
             clear n0_ n1_ n2_ n3_ n4_ n5_ n6_ n7_
             clear hb ho60
             refine hK.out _ _ ⟨v153, v156, v160, gb163, m6_, m7_, m8_, m10_, (by rw [ha.out]; exact putSel_upk 4 hb_ rfl rfl rfl), (by (with_reducible repeat (first | apply Kd.R_alloc | apply Kd.R_drewN | apply Kd.R_drew)); exact Kd.R_mono HO126.out (fun _ hk => fpk hk)), (by (with_reducible repeat (first | apply Kd.R_alloc | apply Kd.R_drewN | apply Kd.R_drew)); exact Kd.R_mono HO136.out (fun _ hk => fpk hk)), (by (with_reducible repeat (first | apply Kd.R_alloc | apply Kd.R_drewN | apply Kd.R_drew)); first | exact HO139.out | exact Kd.R_mono HO139.out (fun _ hk => fpk hk)), (by (with_reducible repeat (first | apply Kd.R_alloc | apply Kd.R_drewN | apply Kd.R_drew)); exact Kd.R_mono HO143.out (fun _ hk => fpk hk)), (bk BK127.out), (bk BK145.out), bw, fun _ => (by (with_reducible repeat (first | apply Kd.R_alloc | apply Kd.R_drewN | apply Kd.R_drew)); exact Kd.R_mono HO154.out (fun _ hk => fpk hk)), z_HO157, fun h0_ => absurd ((hoff 6 (by kernel_rfl)).symm.trans h0_) (by decide), z_BK163, Q_GW163, Q_GE163, Q_NB127_163, Q_NB163_127, Q_NB145_163, Q_NB163_145, fun h0_ => absurd ((hoff 11 (by kernel_rfl)).symm.trans h0_) (by decide), fun h0_ => absurd ((hoff 6 (by kernel_rfl)).symm.trans h0_) (by decide), fun h0_ => absurd ((hoff 7 (by kernel_rfl)).symm.trans h0_) (by decide), fun h0_ => absurd ((hoff 8 (by kernel_rfl)).symm.trans h0_) (by decide), Q_X10_⟩
            refine steps_cons ?_ ?_
            ·rintro b a w' ⟨v153, v156, v160, gb163, m6_, m7_, m8_, m10_, ha, Q_HO126, Q_HO136, Q_HO139, Q_HO143, Q_BK127, Q_BK145, Q_HB, Q_HO154, Q_HO157, Q_HO161, Q_BK163, Q_GW163, Q_GE163, Q_NB127_163, Q_NB163_127, Q_NB145_163, Q_NB163_145, Q_BK163_e11, Q_X6_, Q_X7_, Q_X8_, Q_X10_⟩ hb_ hon hoff
             refine ⟨_, rfl, fun K hK => ?_⟩
             replace ha := Aside0.mk ha
             have HO126 := Aside0.mk Q_HO126
             have HO136 := Aside0.mk Q_HO136
             have HO139 := Aside0.mk Q_HO139
             have HO143 := Aside0.mk Q_HO143
             have BK127 := Aside0.mk Q_BK127
             have BK145 := Aside0.mk Q_BK145
             have HB := Aside0.mk Q_HB
             refine Kd.R_lit_step (Kd.int .i64) _ 3 ?hg (N := 29) ?hd (xs := ([0, 1, 2] : List Int)) (inner := [.int .i64 0, .int .i64 1, .int .i64 2]) (ok := fun _ => True) (okp := fun _ => True) ?hr ?hp (fun _ hk => fpk hk) trivial (Below.refl _ _) (Nat.le_refl _) (by simp) ?_; (case hd => rfl); (case hg => rfl); (case hr => first | (go_simp; done) | (go_simp; rfl)); (case hp => exact (Reps.one (show Kd.M (Kd.int .i64) _ _ _ 0 [.int .i64 0] from rfl) (Reps.one (show Kd.M (Kd.int .i64) _ _ _ 1 [.int .i64 1] from rfl) (Reps.one (show Kd.M (Kd.int .i64) _ _ _ 2 [.int .i64 2] from rfl) (Reps.none _ _)))))
             intro v156 w55 ho56 hb hg_ hnew_
             clear hg_ hnew_
             (first | rw [← Ny155.out] at ho56 | (simp only [Int.reduceToNat] at ho56; rw [← Ny155.out] at ho56))
             have n0_ := Aside0.mk (Kd.R_below (by (with_reducible repeat (first | apply Kd.R_alloc | apply Kd.R_drewN | apply Kd.R_drew)); first | exact HO126.out | exact Kd.R_mono HO126.out (fun _ hk => fpk hk)) hb)
             have n1_ := Aside0.mk (Kd.R_below (by (with_reducible repeat (first | apply Kd.R_alloc | apply Kd.R_drewN | apply Kd.R_drew)); first | exact HO136.out | exact Kd.R_mono HO136.out (fun _ hk => fpk hk)) hb)
             have n2_ := Aside0.mk (Kd.R_elder' (by (with_reducible repeat (first | apply Kd.R_alloc | apply Kd.R_drewN | apply Kd.R_drew)); first | exact HO139.out | exact Kd.R_mono HO139.out (fun _ hk => fpk hk)) (Kd.R_base ho56) hb)
             have n3_ := Aside0.mk (Kd.R_below (by (with_reducible repeat (first | apply Kd.R_alloc | apply Kd.R_drewN | apply Kd.R_drew)); first | exact HO143.out | exact Kd.R_mono HO143.out (fun _ hk => fpk hk)) hb)
             have n4_ := Aside0.mk (Kd.R_lower (Kd.R_new' ho56 (Kd.R_lt (by (with_reducible repeat (first | apply Kd.R_alloc | apply Kd.R_drewN | apply Kd.R_drew)); first | exact HO139.out | exact Kd.R_mono HO139.out (fun _ hk => fpk hk)))) (below_size bw))
             have n5_ := Aside0.mk (nb BK127.out hb)
             have n6_ := Aside0.mk (nb BK145.out hb)
             have n7_ := Aside0.mk (below_step bw hb)
             have z_HO154 := fun (h0_ : b 4 = true) => (show Kd.R k38 38 w55 w.heap.size (fun _ => True) v153 y152 from by first | exact (Kd.R_below (by (with_reducible repeat (first | apply Kd.R_alloc | apply Kd.R_drewN | apply Kd.R_drew)); exact (Q_HO154 h0_)) hb) | exact Kd.R_mono (Kd.R_below (by (with_reducible repeat (first | apply Kd.R_alloc | apply Kd.R_drewN | apply Kd.R_drew)); exact (Q_HO154 h0_)) hb) (fun _ h_ => by first | trivial | exact h_ | exact h_.1))
             have z_BK163 := fun (h0_ : b 10 = true) (h1_ : b 11 = false) => (show w55.heap[gb163]? = some (.cells #[.int .i64 0, .slice none 0 0] 24 (0, 0)) from by first | exact (blk_below (g := gb163) (o := .cells #[.int .i64 0, .slice none 0 0] 24 (0, 0)) (by (with_reducible repeat (first | refine blk_drewN ?_ _ | refine blk_drew ?_ | refine blk_alloc ?_ _)); exact (Q_BK163 h0_ h1_)) hb))
             clear HO126
             clear HO136
             clear HO139
             clear HO143
             clear BK127
             clear BK145
             clear HB
             have HO126 := n0_
             have HO136 := n1_
             have HO139 := n2_
             have HO143 := n3_
             have HO157 := n4_
             have BK127 := n5_
             have BK145 := n6_
             have HB := n7_
             clear n0_ n1_ n2_ n3_ n4_ n5_ n6_ n7_
             clear hb ho56
             refine hK.out _ _ ⟨v153, v156, v160, gb163, m6_, m7_, m8_, m10_, (by rw [ha.out]; exact putSel_upk 5 hb_ rfl rfl rfl), (by (with_reducible repeat (first | apply Kd.R_alloc | apply Kd.R_drewN | apply Kd.R_drew)); first | exact HO126.out | exact Kd.R_mono HO126.out (fun _ hk => fpk hk)), (by (with_reducible repeat (first | apply Kd.R_alloc | apply Kd.R_drewN | apply Kd.R_drew)); first | exact HO136.out | exact Kd.R_mono HO136.out (fun _ hk => fpk hk)), (by (with_reducible repeat (first | apply Kd.R_alloc | apply Kd.R_drewN | apply Kd.R_drew)); exact Kd.R_mono HO139.out (fun _ hk => fpk hk)), (by (with_reducible repeat (first | apply Kd.R_alloc | apply Kd.R_drewN | apply Kd.R_drew)); first | exact HO143.out | exact Kd.R_mono HO143.out (fun _ hk => fpk hk)), (bk BK127.out), (bk BK145.out), bw, z_HO154, fun _ => (by (with_reducible repeat (first | apply Kd.R_alloc | apply Kd.R_drewN | apply Kd.R_drew)); exact Kd.R_mono HO157.out (fun _ hk => fpk hk)), fun h0_ => absurd ((hoff 6 (by kernel_rfl)).symm.trans h0_) (by decide), z_BK163, Q_GW163, Q_GE163, Q_NB127_163, Q_NB163_127, Q_NB145_163, Q_NB163_145, fun h0_ => absurd ((hoff 11 (by kernel_rfl)).symm.trans h0_) (by decide), fun h0_ => absurd ((hoff 6 (by kernel_rfl)).symm.trans h0_) (by decide), fun h0_ => absurd ((hoff 7 (by kernel_rfl)).symm.trans h0_) (by decide), fun h0_ => absurd ((hoff 8 (by kernel_rfl)).symm.trans h0_) (by decide), Q_X10_⟩
            refine steps_cons ?_ ?_
            ·rintro b a w' ⟨v153, v156, v160, gb163, m6_, m7_, m8_, m10_, ha, Q_HO126, Q_HO136, Q_HO139, Q_HO143, Q_BK127, Q_BK145, Q_HB, Q_HO154, Q_HO157, Q_HO161, Q_BK163, Q_GW163, Q_GE163, Q_NB127_163, Q_NB163_127, Q_NB145_163, Q_NB163_145, Q_BK163_e11, Q_X6_, Q_X7_, Q_X8_, Q_X10_⟩ hb_ hon hoff
             refine ⟨_, rfl, fun K hK => ?_⟩
             have e24 : a.tmps[24]? = some (.agg #[.int .i64 1, .slice Ao34 y124.length co34]) := by rw [ha]; exact putSel_on (e := (0, 24, .agg #[.int .i64 1, .slice Ao34 y124.length co34])) 0 rfl rfl (hon 0 (by kernel_rfl)) rfl
             have e28 : a.tmps[28]? = some (v153) := by rw [ha]; exact putSel_on (e := (4, 28, v153)) 4 rfl rfl (hon 4 (by kernel_rfl)) rfl
             have e29 : a.tmps[29]? = some (v156) := by rw [ha]; exact putSel_on (e := (5, 29, v156)) 5 rfl rfl (hon 5 (by kernel_rfl)) rfl
             replace ha := Aside0.mk ha
             have HO126 := Aside0.mk Q_HO126
             have HO136 := Aside0.mk Q_HO136
             have HO139 := Aside0.mk Q_HO139
             have HO143 := Aside0.mk Q_HO143
             have BK127 := Aside0.mk Q_BK127
             have BK145 := Aside0.mk Q_BK145
             have HB := Aside0.mk Q_HB
             have HO154 := Aside0.mk (Q_HO154 (hon 4 (by kernel_rfl)))
             have HO157 := Aside0.mk (Q_HO157 (hon 5 (by kernel_rfl)))
             obtain ⟨Ao63, co63, eo63⟩ := Kd.R_slice HO154.out
             (first | subst eo63 | (injection eo63 with f1_ f2_ f3_; have f4_ := f1_.symm; have f5_ := f3_.symm; clear f1_ f2_ f3_; subst f4_; subst f5_))
             obtain ⟨Ao64, co64, eo64⟩ := Kd.R_slice HO157.out
             (first | subst eo64 | (injection eo64 with f1_ f2_ f3_; have f4_ := f1_.symm; have f5_ := f3_.symm; clear f1_ f2_ f3_; subst f4_; subst f5_))
             refine goes_ Tryd.func12 (by kernel_rfl) rfl #[.agg #[.int .i64 1, .slice Ao34 y124.length co34], .slice Ao63 y152.length co63, .slice Ao64 y155.length co64] (by rfl) rfl rfl (by first | (simp only [List.map_toArray, List.map_cons, List.map_nil, Act.eval, Array.getD_eq_getD_getElem?, Option.getD_some, e24, e28, e29]; done) | (simp only [List.map_toArray, List.map_cons, List.map_nil, Act.eval, Array.getD_eq_getD_getElem?, Option.getD_some, e24, e28, e29]; rfl)) ?_
             with_reducible refine (view_Next.calls k 1 _ _ y124 _ _ y152 _ _ y155 t158 t159 t162 _ ?side1 ?side2 ?side3 ?side4 ?side5 ?side6 A11.out).mono ?_
             (case side1 => repeat (first | exact (Kd.R_reads' HO126.out).2.2 | (with_reducible refine Kd.C_alloc ?_ _) | (with_reducible refine Kd.C_drewN ?_ _) | (with_reducible refine Kd.C_drew ?_)))
             (case side2 => exact (Kd.R_reads' HO126.out).2.1)
             (case side3 => repeat (first | exact (Kd.R_reads' HO154.out).2.2 | (with_reducible refine Kd.C_alloc ?_ _) | (with_reducible refine Kd.C_drewN ?_ _) | (with_reducible refine Kd.C_drew ?_)))
             (case side4 => exact (Kd.R_reads' HO154.out).2.1)
             (case side5 => repeat (first | exact (Kd.R_reads' HO157.out).2.2 | (with_reducible refine Kd.C_alloc ?_ _) | (with_reducible refine Kd.C_drewN ?_ _) | (with_reducible refine Kd.C_drew ?_)))
             (case side6 => exact (Kd.R_reads' HO157.out).2.1)
             rintro e w65 ⟨v160, rfl, ho0, hb⟩
             refine ⟨_, rfl, ?_⟩
             have n0_ := Aside0.mk (Kd.R_elder' (by (with_reducible repeat (first | apply Kd.R_alloc | apply Kd.R_drewN | apply Kd.R_drew)); first | exact HO126.out | exact Kd.R_mono HO126.out (fun _ hk => fpk hk)) (Kd.R_base ho0) hb)
             have n1_ := Aside0.mk (Kd.R_elder' (by (with_reducible repeat (first | apply Kd.R_alloc | apply Kd.R_drewN | apply Kd.R_drew)); first | exact HO136.out | exact Kd.R_mono HO136.out (fun _ hk => fpk hk)) (Kd.R_base ho0) hb)
             have n2_ := Aside0.mk (Kd.R_below (by (with_reducible repeat (first | apply Kd.R_alloc | apply Kd.R_drewN | apply Kd.R_drew)); first | exact HO139.out | exact Kd.R_mono HO139.out (fun _ hk => fpk hk)) hb)
             have n3_ := Aside0.mk (Kd.R_elder' (by (with_reducible repeat (first | apply Kd.R_alloc | apply Kd.R_drewN | apply Kd.R_drew)); first | exact HO143.out | exact Kd.R_mono HO143.out (fun _ hk => fpk hk)) (Kd.R_base ho0) hb)
             have n4_ := Aside0.mk (Kd.R_elder' (by (with_reducible repeat (first | apply Kd.R_alloc | apply Kd.R_drewN | apply Kd.R_drew)); first | exact HO154.out | exact Kd.R_mono HO154.out (fun _ hk => fpk hk)) (Kd.R_base ho0) hb)
             have n5_ := Aside0.mk (Kd.R_below (by (with_reducible repeat (first | apply Kd.R_alloc | apply Kd.R_drewN | apply Kd.R_drew)); first | exact HO157.out | exact Kd.R_mono HO157.out (fun _ hk => fpk hk)) hb)
             have n6_ := Aside0.mk (Kd.R_lower (Kd.R_new' (Kd.R_new' (Kd.R_new' (Kd.R_new' ho0 (Kd.R_lt (by (with_reducible repeat (first | apply Kd.R_alloc | apply Kd.R_drewN | apply Kd.R_drew)); first | exact HO126.out | exact Kd.R_mono HO126.out (fun _ hk => fpk hk)))) (Kd.R_lt (by (with_reducible repeat (first | apply Kd.R_alloc | apply Kd.R_drewN | apply Kd.R_drew)); first | exact HO136.out | exact Kd.R_mono HO136.out (fun _ hk => fpk hk)))) (Kd.R_lt (by (with_reducible repeat (first | apply Kd.R_alloc | apply Kd.R_drewN | apply Kd.R_drew)); first | exact HO143.out | exact Kd.R_mono HO143.out (fun _ hk => fpk hk)))) (Kd.R_lt (by (with_reducible repeat (first | apply Kd.R_alloc | apply Kd.R_drewN | apply Kd.R_drew)); first | exact HO154.out | exact Kd.R_mono HO154.out (fun _ hk => fpk hk)))) (below_size bw))
             have n7_ := Aside0.mk (nb BK127.out hb)
             have n8_ := Aside0.mk (nb BK145.out hb)
             have n9_ := Aside0.mk (below_step bw hb)
             have z_BK163 := fun (h0_ : b 10 = true) (h1_ : b 11 = false) => (show w65.heap[gb163]? = some (.cells #[.int .i64 0, .slice none 0 0] 24 (0, 0)) from by first | exact (blk_below (g := gb163) (o := .cells #[.int .i64 0, .slice none 0 0] 24 (0, 0)) (by (with_reducible repeat (first | refine blk_drewN ?_ _ | refine blk_drew ?_ | refine blk_alloc ?_ _)); exact (Q_BK163 h0_ h1_)) hb))
             clear HO126
             clear HO136
             clear HO139
             clear HO143
             clear HO154
             clear HO157
             clear BK127
             clear BK145
             clear HB
             have HO126 := n0_
             have HO136 := n1_
             have HO139 := n2_
             have HO143 := n3_
             have HO154 := n4_
             have HO157 := n5_
             have HO161 := n6_
             have BK127 := n7_
             have BK145 := n8_
             have HB := n9_
             clear n0_ n1_ n2_ n3_ n4_ n5_ n6_ n7_ n8_ n9_
             (try clear hb)
             (try clear hb2)
             (try clear hk)
             (try clear hi)
             (try clear ho0)
             refine hK.out _ _ ⟨.slice Ao63 y152.length co63, .slice Ao64 y155.length co64, v160, gb163, (.tuple #[.agg #[.int .i64 t158, v160], .int .i64 t162]), m7_, m8_, m10_, (by rw [ha.out]; exact putSel_upk 6 hb_ rfl rfl rfl), (by (with_reducible repeat (first | apply Kd.R_alloc | apply Kd.R_drewN | apply Kd.R_drew)); exact Kd.R_mono HO126.out (fun _ hk => fpk hk)), (by (with_reducible repeat (first | apply Kd.R_alloc | apply Kd.R_drewN | apply Kd.R_drew)); exact Kd.R_mono HO136.out (fun _ hk => fpk hk)), (by (with_reducible repeat (first | apply Kd.R_alloc | apply Kd.R_drewN | apply Kd.R_drew)); first | exact HO139.out | exact Kd.R_mono HO139.out (fun _ hk => fpk hk)), (by (with_reducible repeat (first | apply Kd.R_alloc | apply Kd.R_drewN | apply Kd.R_drew)); exact Kd.R_mono HO143.out (fun _ hk => fpk hk)), (bk BK127.out), (bk BK145.out), bw, fun _ => (by (with_reducible repeat (first | apply Kd.R_alloc | apply Kd.R_drewN | apply Kd.R_drew)); exact Kd.R_mono HO154.out (fun _ hk => fpk hk)), fun _ => (by (with_reducible repeat (first | apply Kd.R_alloc | apply Kd.R_drewN | apply Kd.R_drew)); first | exact HO157.out | exact Kd.R_mono HO157.out (fun _ hk => fpk hk)), fun _ => (by (with_reducible repeat (first | apply Kd.R_alloc | apply Kd.R_drewN | apply Kd.R_drew)); exact Kd.R_mono HO161.out (fun _ hk => fpk hk)), z_BK163, Q_GW163, Q_GE163, Q_NB127_163, Q_NB163_127, Q_NB145_163, Q_NB163_145, fun h0_ => absurd ((hoff 11 (by kernel_rfl)).symm.trans h0_) (by decide), fun _ => rfl, fun h0_ => absurd ((hoff 7 (by kernel_rfl)).symm.trans h0_) (by decide), fun h0_ => absurd ((hoff 8 (by kernel_rfl)).symm.trans h0_) (by decide), Q_X10_⟩
            refine steps_cons ?_ ?_
            ·rintro b a w' ⟨v153, v156, v160, gb163, m6_, m7_, m8_, m10_, ha, Q_HO126, Q_HO136, Q_HO139, Q_HO143, Q_BK127, Q_BK145, Q_HB, Q_HO154, Q_HO157, Q_HO161, Q_BK163, Q_GW163, Q_GE163, Q_NB127_163, Q_NB163_127, Q_NB145_163, Q_NB163_145, Q_BK163_e11, Q_X6_, Q_X7_, Q_X8_, Q_X10_⟩ hb_ hon hoff
             refine ⟨_, rfl, fun K hK => ?_⟩
             have e30 : a.tmps[30]? = some (m6_) := by rw [ha]; exact putSel_on (e := (6, 30, m6_)) 6 rfl rfl (hon 6 (by kernel_rfl)) rfl
             rw [Q_X6_ (hon 6 (by kernel_rfl))] at e30
             replace ha := Aside0.mk ha
             have HO126 := Aside0.mk Q_HO126
             have HO136 := Aside0.mk Q_HO136
             have HO139 := Aside0.mk Q_HO139
             have HO143 := Aside0.mk Q_HO143
             have BK127 := Aside0.mk Q_BK127
             have BK145 := Aside0.mk Q_BK145
             have HB := Aside0.mk Q_HB
             have HO154 := Aside0.mk (Q_HO154 (hon 4 (by kernel_rfl)))
             have HO157 := Aside0.mk (Q_HO157 (hon 5 (by kernel_rfl)))
             have HO161 := Aside0.mk (Q_HO161 (hon 6 (by kernel_rfl)))
             refine value_ (w1 := w') (v := .tuple #[.agg #[.int .i64 t158, v160], .int .i64 t162]) (by rfl) rfl ?_ ?_
             ·go_simp
              (try simp only [i64_w])
              try rfl
             refine hK.out _ _ ⟨v153, v156, v160, gb163, m6_, (.tuple #[.agg #[.int .i64 t158, v160], .int .i64 t162]), m8_, m10_, (by rw [ha.out]; exact putSel_upk 7 hb_ rfl rfl rfl), Q_HO126, Q_HO136, Q_HO139, Q_HO143, Q_BK127, Q_BK145, Q_HB, Q_HO154, Q_HO157, Q_HO161, Q_BK163, Q_GW163, Q_GE163, Q_NB127_163, Q_NB163_127, Q_NB145_163, Q_NB163_145, fun h0_ => absurd ((hoff 11 (by kernel_rfl)).symm.trans h0_) (by decide), Q_X6_, fun _ => rfl, fun h0_ => absurd ((hoff 8 (by kernel_rfl)).symm.trans h0_) (by decide), Q_X10_⟩
            refine steps_cons ?_ ?_
            ·rintro b a w' ⟨v153, v156, v160, gb163, m6_, m7_, m8_, m10_, ha, Q_HO126, Q_HO136, Q_HO139, Q_HO143, Q_BK127, Q_BK145, Q_HB, Q_HO154, Q_HO157, Q_HO161, Q_BK163, Q_GW163, Q_GE163, Q_NB127_163, Q_NB163_127, Q_NB145_163, Q_NB163_145, Q_BK163_e11, Q_X6_, Q_X7_, Q_X8_, Q_X10_⟩ hb_ hon hoff
             refine ⟨_, rfl, fun K hK => ?_⟩
             have e23 : a.tmps[23]? = some (m7_) := by rw [ha]; exact putSel_on (e := (7, 23, m7_)) 7 rfl rfl (hon 7 (by kernel_rfl)) rfl
             rw [Q_X7_ (hon 7 (by kernel_rfl))] at e23
             replace ha := Aside0.mk ha
             have HO126 := Aside0.mk Q_HO126
             have HO136 := Aside0.mk Q_HO136
             have HO139 := Aside0.mk Q_HO139
             have HO143 := Aside0.mk Q_HO143
             have BK127 := Aside0.mk Q_BK127
             have BK145 := Aside0.mk Q_BK145
             have HB := Aside0.mk Q_HB
             have HO154 := Aside0.mk (Q_HO154 (hon 4 (by kernel_rfl)))
             have HO157 := Aside0.mk (Q_HO157 (hon 5 (by kernel_rfl)))
             have HO161 := Aside0.mk (Q_HO161 (hon 6 (by kernel_rfl)))
             refine value_ (w1 := w') (v := .agg #[.int .i64 t158, v160]) (by rfl) rfl ?_ ?_
             ·go_simp
              (try simp only [i64_w])
              try rfl
             refine hK.out _ _ ⟨v153, v156, v160, gb163, m6_, m7_, (.agg #[.int .i64 t158, v160]), m10_, (by rw [ha.out]; exact putSel_upk 8 hb_ rfl rfl rfl), Q_HO126, Q_HO136, Q_HO139, Q_HO143, Q_BK127, Q_BK145, Q_HB, Q_HO154, Q_HO157, Q_HO161, Q_BK163, Q_GW163, Q_GE163, Q_NB127_163, Q_NB163_127, Q_NB145_163, Q_NB163_145, fun h0_ => absurd ((hoff 11 (by kernel_rfl)).symm.trans h0_) (by decide), Q_X6_, Q_X7_, fun _ => rfl, Q_X10_⟩
            refine steps_cons ?_ ?_
            ·rintro b a w' ⟨v153, v156, v160, gb163, m6_, m7_, m8_, m10_, ha, Q_HO126, Q_HO136, Q_HO139, Q_HO143, Q_BK127, Q_BK145, Q_HB, Q_HO154, Q_HO157, Q_HO161, Q_BK163, Q_GW163, Q_GE163, Q_NB127_163, Q_NB163_127, Q_NB145_163, Q_NB163_145, Q_BK163_e11, Q_X6_, Q_X7_, Q_X8_, Q_X10_⟩ hb_ hon hoff
             refine ⟨_, rfl, fun K hK => ?_⟩
             have e23 : a.tmps[23]? = some (m7_) := by rw [ha]; exact putSel_on (e := (7, 23, m7_)) 7 rfl rfl (hon 7 (by kernel_rfl)) rfl
             rw [Q_X7_ (hon 7 (by kernel_rfl))] at e23
             replace ha := Aside0.mk ha
             have HO126 := Aside0.mk Q_HO126
             have HO136 := Aside0.mk Q_HO136
             have HO139 := Aside0.mk Q_HO139
             have HO143 := Aside0.mk Q_HO143
             have BK127 := Aside0.mk Q_BK127
             have BK145 := Aside0.mk Q_BK145
             have HB := Aside0.mk Q_HB
             have HO154 := Aside0.mk (Q_HO154 (hon 4 (by kernel_rfl)))
             have HO157 := Aside0.mk (Q_HO157 (hon 5 (by kernel_rfl)))
             have HO161 := Aside0.mk (Q_HO161 (hon 6 (by kernel_rfl)))
             refine value_ (w1 := w') (v := .int .i64 t162) (by rfl) rfl ?_ ?_
             ·go_simp
              (try simp only [i64_w])
              try rfl
             refine hK.out _ _ ⟨v153, v156, v160, gb163, m6_, m7_, m8_, m10_, (by rw [ha.out]; exact putSel_upk 9 hb_ rfl rfl rfl), Q_HO126, Q_HO136, Q_HO139, Q_HO143, Q_BK127, Q_BK145, Q_HB, Q_HO154, Q_HO157, Q_HO161, Q_BK163, Q_GW163, Q_GE163, Q_NB127_163, Q_NB163_127, Q_NB145_163, Q_NB163_145, Q_BK163_e11, Q_X6_, Q_X7_, Q_X8_, Q_X10_⟩
            refine steps_cons ?_ ?_
            ·rintro b a w' ⟨v153, v156, v160, gb163, m6_, m7_, m8_, m10_, ha, Q_HO126, Q_HO136, Q_HO139, Q_HO143, Q_BK127, Q_BK145, Q_HB, Q_HO154, Q_HO157, Q_HO161, Q_BK163, Q_GW163, Q_GE163, Q_NB127_163, Q_NB163_127, Q_NB145_163, Q_NB163_145, Q_BK163_e11, Q_X6_, Q_X7_, Q_X8_, Q_X10_⟩ hb_ hon hoff
             refine ⟨_, rfl, fun K hK => ?_⟩
             replace ha := Aside0.mk ha
             have HO126 := Aside0.mk Q_HO126
             have HO136 := Aside0.mk Q_HO136
             have HO139 := Aside0.mk Q_HO139
             have HO143 := Aside0.mk Q_HO143
             have BK127 := Aside0.mk Q_BK127
             have BK145 := Aside0.mk Q_BK145
             have HB := Aside0.mk Q_HB
             refine box_step ?hg (N := 4) ?hd (cs := #[.int .i64 0, .slice none 0 0]) (t := 24) ?hr ?_; (case hd => rfl); (case hg => rfl); (case hr => first | (go_simp; done) | (go_simp; rfl))
             intro gb163 hg w55 hbox hb
             have n0_ := Aside0.mk (Kd.R_below (by (with_reducible repeat (first | apply Kd.R_alloc | apply Kd.R_drewN | apply Kd.R_drew)); first | exact HO126.out | exact Kd.R_mono HO126.out (fun _ hk => fpk hk)) hb)
             have n1_ := Aside0.mk (Kd.R_below (by (with_reducible repeat (first | apply Kd.R_alloc | apply Kd.R_drewN | apply Kd.R_drew)); first | exact HO136.out | exact Kd.R_mono HO136.out (fun _ hk => fpk hk)) hb)
             have n2_ := Aside0.mk (Kd.R_below (by (with_reducible repeat (first | apply Kd.R_alloc | apply Kd.R_drewN | apply Kd.R_drew)); first | exact HO139.out | exact Kd.R_mono HO139.out (fun _ hk => fpk hk)) hb)
             have n3_ := Aside0.mk (Kd.R_below (by (with_reducible repeat (first | apply Kd.R_alloc | apply Kd.R_drewN | apply Kd.R_drew)); first | exact HO143.out | exact Kd.R_mono HO143.out (fun _ hk => fpk hk)) hb)
             have n4_ := Aside0.mk (nb BK127.out hb)
             have n5_ := Aside0.mk (nb BK145.out hb)
             have n6_ := Aside0.mk (below_step bw hb)
             have n7_ := Aside0.mk (hbox)
             have n8_ := Aside0.mk ((g1 hg bw : w.heap.size ≤ gb163))
             have n9_ := Aside0.mk ((g1 hg bw : w.heap.size ≤ gb163))
             have n10_ := Aside0.mk ((n1 hg BK127.out : gb127 ≠ gb163))
             have n11_ := Aside0.mk ((n2 hg BK127.out : gb163 ≠ gb127))
             have n12_ := Aside0.mk ((n1 hg BK145.out : gb145 ≠ gb163))
             have n13_ := Aside0.mk ((n2 hg BK145.out : gb163 ≠ gb145))
             have z_HO154 := fun (h0_ : b 4 = true) => (show Kd.R k38 38 w55 w.heap.size (fun _ => True) v153 y152 from by first | exact (Kd.R_below (by (with_reducible repeat (first | apply Kd.R_alloc | apply Kd.R_drewN | apply Kd.R_drew)); exact (Q_HO154 h0_)) hb) | exact Kd.R_mono (Kd.R_below (by (with_reducible repeat (first | apply Kd.R_alloc | apply Kd.R_drewN | apply Kd.R_drew)); exact (Q_HO154 h0_)) hb) (fun _ h_ => by first | trivial | exact h_ | exact h_.1))
             have z_HO157 := fun (h0_ : b 5 = true) => (show Kd.R (Kd.int .i64) 3 w55 w.heap.size (fun _ => True) v156 y155 from by first | exact (Kd.R_below (by (with_reducible repeat (first | apply Kd.R_alloc | apply Kd.R_drewN | apply Kd.R_drew)); exact (Q_HO157 h0_)) hb) | exact Kd.R_mono (Kd.R_below (by (with_reducible repeat (first | apply Kd.R_alloc | apply Kd.R_drewN | apply Kd.R_drew)); exact (Q_HO157 h0_)) hb) (fun _ h_ => by first | trivial | exact h_ | exact h_.1))
             have z_HO161 := fun (h0_ : b 6 = true) => (show Kd.R k38 38 w55 w.heap.size (fun _ => True) v160 t159 from by first | exact (Kd.R_below (by (with_reducible repeat (first | apply Kd.R_alloc | apply Kd.R_drewN | apply Kd.R_drew)); exact (Q_HO161 h0_)) hb) | exact Kd.R_mono (Kd.R_below (by (with_reducible repeat (first | apply Kd.R_alloc | apply Kd.R_drewN | apply Kd.R_drew)); exact (Q_HO161 h0_)) hb) (fun _ h_ => by first | trivial | exact h_ | exact h_.1))
             clear HO126
             clear HO136
             clear HO139
             clear HO143
             clear BK127
             clear BK145
             clear HB
             have HO126 := n0_
             have HO136 := n1_
             have HO139 := n2_
             have HO143 := n3_
             have BK127 := n4_
             have BK145 := n5_
             have HB := n6_
             have BK163 := n7_
             have GW163 := n8_
             have GE163 := n9_
             have NB127_163 := n10_
             have NB163_127 := n11_
             have NB145_163 := n12_
             have NB163_145 := n13_
             clear n0_ n1_ n2_ n3_ n4_ n5_ n6_ n7_ n8_ n9_ n10_ n11_ n12_ n13_
             clear hb hbox hg
             refine hK.out _ _ ⟨v153, v156, v160, gb163, m6_, m7_, m8_, (.pointer (some ⟨gb163, 0, none⟩)), (by rw [ha.out]; exact putSel_upk 10 hb_ rfl rfl rfl), (by (with_reducible repeat (first | apply Kd.R_alloc | apply Kd.R_drewN | apply Kd.R_drew)); first | exact HO126.out | exact Kd.R_mono HO126.out (fun _ hk => fpk hk)), (by (with_reducible repeat (first | apply Kd.R_alloc | apply Kd.R_drewN | apply Kd.R_drew)); first | exact HO136.out | exact Kd.R_mono HO136.out (fun _ hk => fpk hk)), (by (with_reducible repeat (first | apply Kd.R_alloc | apply Kd.R_drewN | apply Kd.R_drew)); first | exact HO139.out | exact Kd.R_mono HO139.out (fun _ hk => fpk hk)), (by (with_reducible repeat (first | apply Kd.R_alloc | apply Kd.R_drewN | apply Kd.R_drew)); first | exact HO143.out | exact Kd.R_mono HO143.out (fun _ hk => fpk hk)), (bk BK127.out), (bk BK145.out), bw, z_HO154, z_HO157, z_HO161, fun _ _ => (bk BK163.out), fun _ => GW163.out, fun _ => GE163.out, fun _ => NB127_163.out, fun _ => NB163_127.out, fun _ => NB145_163.out, fun _ => NB163_145.out, fun h0_ => absurd ((hoff 11 (by kernel_rfl)).symm.trans h0_) (by decide), Q_X6_, Q_X7_, Q_X8_, fun _ => rfl⟩
            refine steps_cons ?_ ?_
            ·rintro b a w' ⟨v153, v156, v160, gb163, m6_, m7_, m8_, m10_, ha, Q_HO126, Q_HO136, Q_HO139, Q_HO143, Q_BK127, Q_BK145, Q_HB, Q_HO154, Q_HO157, Q_HO161, Q_BK163, Q_GW163, Q_GE163, Q_NB127_163, Q_NB163_127, Q_NB145_163, Q_NB163_145, Q_BK163_e11, Q_X6_, Q_X7_, Q_X8_, Q_X10_⟩ hb_ hon hoff
             refine ⟨_, rfl, fun K hK => ?_⟩
             have e4 : a.tmps[4]? = some (m10_) := by rw [ha]; exact putSel_on (e := (10, 4, m10_)) 10 rfl rfl (hon 10 (by kernel_rfl)) rfl
             rw [Q_X10_ (hon 10 (by kernel_rfl))] at e4
             have e31 : a.tmps[31]? = some (m8_) := by rw [ha]; exact putSel_on (e := (8, 31, m8_)) 8 rfl rfl (hon 8 (by kernel_rfl)) rfl
             rw [Q_X8_ (hon 8 (by kernel_rfl))] at e31
             replace ha := Aside0.mk ha
             have HO126 := Aside0.mk Q_HO126
             have HO136 := Aside0.mk Q_HO136
             have HO139 := Aside0.mk Q_HO139
             have HO143 := Aside0.mk Q_HO143
             have BK127 := Aside0.mk Q_BK127
             have BK145 := Aside0.mk Q_BK145
             have HB := Aside0.mk Q_HB
             have HO154 := Aside0.mk (Q_HO154 (hon 4 (by kernel_rfl)))
             have HO157 := Aside0.mk (Q_HO157 (hon 5 (by kernel_rfl)))
             have HO161 := Aside0.mk (Q_HO161 (hon 6 (by kernel_rfl)))
             have BK163 := Aside0.mk (Q_BK163 (hon 10 (by kernel_rfl)) hb_)
             have GW163 := Aside0.mk (Q_GW163 (hon 10 (by kernel_rfl)))
             have GE163 := Aside0.mk (Q_GE163 (hon 10 (by kernel_rfl)))
             have NB127_163 := Aside0.mk (Q_NB127_163 (hon 10 (by kernel_rfl)))
             have NB163_127 := Aside0.mk (Q_NB163_127 (hon 10 (by kernel_rfl)))
             have NB145_163 := Aside0.mk (Q_NB145_163 (hon 10 (by kernel_rfl)))
             have NB163_145 := Aside0.mk (Q_NB163_145 (hon 10 (by kernel_rfl)))
             obtain ⟨Ao68, co68, eo68⟩ := Kd.R_slice HO161.out
             (first | subst eo68 | (injection eo68 with f1_ f2_ f3_; have f4_ := f1_.symm; have f5_ := f3_.symm; clear f1_ f2_ f3_; subst f4_; subst f5_))
             have hs67 : w'.cell? ⟨gb163, 0, none⟩ = some (.int .i64 0) := (blk_cell BK163.out 0).trans rfl
             have hfs67 := blk_frozen BK163.out 0
             have hns67_0 := NB127_163.out
             have hns67_1 := NB145_163.out
             have hms67_0 := NB163_127.out
             have hms67_1 := NB163_145.out
             have hs69 : w'.cell? ⟨gb163, 1, none⟩ = some (.slice none 0 0) := (blk_cell BK163.out 1).trans rfl
             have hfs69 := blk_frozen BK163.out 1
             have hns69_0 := NB127_163.out
             have hns69_1 := NB145_163.out
             have hms69_0 := NB163_127.out
             have hms69_1 := NB163_145.out
             refine skip_ (w1 := ?_) (by rfl) rfl ?_ ?_
             rotate_left
             ·go_simp
              rfl
             refine hK.out _ _ ⟨v153, v156, .slice Ao68 t159.length co68, gb163, m6_, m7_, m8_, m10_, (by rw [ha.out]; exact putSel_none (v := undef) rfl), (by (with_reducible repeat (first | apply Kd.R_alloc | apply Kd.R_drewN | apply Kd.R_drew)); exact Kd.R_mono (Kd.R_far (p := ⟨gb163, 1, none⟩) (Kd.R_far (p := ⟨gb163, 0, none⟩) (Kd.R_types HO126.out BK163.out (by decide)) (fun _ hk => fpk hk) (.int .i64 t158)) (fun _ hk => fpk hk) (.slice Ao68 t159.length co68)) (fun _ hk => fpk hk)), (by (with_reducible repeat (first | apply Kd.R_alloc | apply Kd.R_drewN | apply Kd.R_drew)); exact Kd.R_mono (Kd.R_far (p := ⟨gb163, 1, none⟩) (Kd.R_far (p := ⟨gb163, 0, none⟩) (Kd.R_types HO136.out BK163.out (by decide)) (fun _ hk => fpk hk) (.int .i64 t158)) (fun _ hk => fpk hk) (.slice Ao68 t159.length co68)) (fun _ hk => fpk hk)), (by (with_reducible repeat (first | apply Kd.R_alloc | apply Kd.R_drewN | apply Kd.R_drew)); exact Kd.R_mono (Kd.R_far (p := ⟨gb163, 1, none⟩) (Kd.R_far (p := ⟨gb163, 0, none⟩) (Kd.R_types HO139.out BK163.out (by decide)) (fun _ hk => fpk hk) (.int .i64 t158)) (fun _ hk => fpk hk) (.slice Ao68 t159.length co68)) (fun _ hk => fpk hk)), (by (with_reducible repeat (first | apply Kd.R_alloc | apply Kd.R_drewN | apply Kd.R_drew)); exact Kd.R_mono (Kd.R_far (p := ⟨gb163, 1, none⟩) (Kd.R_far (p := ⟨gb163, 0, none⟩) (Kd.R_types HO143.out BK163.out (by decide)) (fun _ hk => fpk hk) (.int .i64 t158)) (fun _ hk => fpk hk) (.slice Ao68 t159.length co68)) (fun _ hk => fpk hk)), (by (with_reducible repeat (first | refine blk_drewN ?_ _ | refine blk_drew ?_ | refine blk_alloc ?_ _ | refine blk_far ?_ NB127_163.out _)); exact BK127.out), (by (with_reducible repeat (first | refine blk_drewN ?_ _ | refine blk_drew ?_ | refine blk_alloc ?_ _ | refine blk_far ?_ NB145_163.out _)); exact BK145.out), bw, fun _ => (by (with_reducible repeat (first | apply Kd.R_alloc | apply Kd.R_drewN | apply Kd.R_drew)); exact Kd.R_mono (Kd.R_far (p := ⟨gb163, 1, none⟩) (Kd.R_far (p := ⟨gb163, 0, none⟩) (Kd.R_types HO154.out BK163.out (by decide)) (fun _ hk => fpk hk) (.int .i64 t158)) (fun _ hk => fpk hk) (.slice Ao68 t159.length co68)) (fun _ hk => fpk hk)), fun _ => (by (with_reducible repeat (first | apply Kd.R_alloc | apply Kd.R_drewN | apply Kd.R_drew)); exact Kd.R_mono (Kd.R_far (p := ⟨gb163, 1, none⟩) (Kd.R_far (p := ⟨gb163, 0, none⟩) (Kd.R_types HO157.out BK163.out (by decide)) (fun _ hk => fpk hk) (.int .i64 t158)) (fun _ hk => fpk hk) (.slice Ao68 t159.length co68)) (fun _ hk => fpk hk)), fun _ => (by (with_reducible repeat (first | apply Kd.R_alloc | apply Kd.R_drewN | apply Kd.R_drew)); exact Kd.R_mono (Kd.R_far (p := ⟨gb163, 1, none⟩) (Kd.R_far (p := ⟨gb163, 0, none⟩) (Kd.R_types HO161.out BK163.out (by decide)) (fun _ hk => fpk hk) (.int .i64 t158)) (fun _ hk => fpk hk) (.slice Ao68 t159.length co68)) (fun _ hk => fpk hk)), fun _ h1_ => absurd ((up_self b 11).symm.trans h1_) (by decide), fun _ => GW163.out, fun _ => GE163.out, fun _ => NB127_163.out, fun _ => NB163_127.out, fun _ => NB145_163.out, fun _ => NB163_145.out, fun _ => (by (with_reducible repeat (first | refine blk_drewN ?_ _ | refine blk_drew ?_ | refine blk_alloc ?_ _)); refine blk_put (cs := #[.int .i64 t158, .slice none 0 0]) ?_ 1 _ rfl; (with_reducible repeat (first | refine blk_drewN ?_ _ | refine blk_drew ?_ | refine blk_alloc ?_ _)); refine blk_put (cs := #[.int .i64 0, .slice none 0 0]) ?_ 0 _ rfl; (with_reducible repeat (first | refine blk_drewN ?_ _ | refine blk_drew ?_ | refine blk_alloc ?_ _)); exact BK163.out), Q_X6_, Q_X7_, Q_X8_, Q_X10_⟩
            refine steps_cons ?_ ?_
            ·rintro b a w' ⟨v153, v156, v160, gb163, m6_, m7_, m8_, m10_, ha, Q_HO126, Q_HO136, Q_HO139, Q_HO143, Q_BK127, Q_BK145, Q_HB, Q_HO154, Q_HO157, Q_HO161, Q_BK163, Q_GW163, Q_GE163, Q_NB127_163, Q_NB163_127, Q_NB145_163, Q_NB163_145, Q_BK163_e11, Q_X6_, Q_X7_, Q_X8_, Q_X10_⟩ hb_ hon hoff
             refine ⟨_, rfl, fun K hK => ?_⟩
             have e32 : a.tmps[32]? = some (.int .i64 t162) := by rw [ha]; exact putSel_on (e := (9, 32, .int .i64 t162)) 9 rfl rfl (hon 9 (by kernel_rfl)) rfl
             replace ha := Aside0.mk ha
             have HO126 := Aside0.mk Q_HO126
             have HO136 := Aside0.mk Q_HO136
             have HO139 := Aside0.mk Q_HO139
             have HO143 := Aside0.mk Q_HO143
             have BK127 := Aside0.mk Q_BK127
             have BK145 := Aside0.mk Q_BK145
             have HB := Aside0.mk Q_HB
             have HO154 := Aside0.mk (Q_HO154 (hon 4 (by kernel_rfl)))
             have HO157 := Aside0.mk (Q_HO157 (hon 5 (by kernel_rfl)))
             have HO161 := Aside0.mk (Q_HO161 (hon 6 (by kernel_rfl)))
             have GW163 := Aside0.mk (Q_GW163 (hon 10 (by kernel_rfl)))
             have GE163 := Aside0.mk (Q_GE163 (hon 10 (by kernel_rfl)))
             have NB127_163 := Aside0.mk (Q_NB127_163 (hon 10 (by kernel_rfl)))
             have NB163_127 := Aside0.mk (Q_NB163_127 (hon 10 (by kernel_rfl)))
             have NB145_163 := Aside0.mk (Q_NB145_163 (hon 10 (by kernel_rfl)))
             have NB163_145 := Aside0.mk (Q_NB163_145 (hon 10 (by kernel_rfl)))
             have BK163 := Aside0.mk (Q_BK163_e11 (hon 11 (by kernel_rfl)))
             refine value_ (w1 := w') (v := .int .i64 t162) (by rfl) rfl ?_ ?_
             ·go_simp
              (try simp only [i64_w])
              try rfl
             refine hK.out _ _ ⟨v153, v156, v160, gb163, m6_, m7_, m8_, m10_, (by rw [ha.out]; exact putSel_upk 11 hb_ rfl rfl rfl), Q_HO126, Q_HO136, Q_HO139, Q_HO143, Q_BK127, Q_BK145, Q_HB, Q_HO154, Q_HO157, Q_HO161, fun _ h1_ => absurd ((hon 11 (by kernel_rfl)).symm.trans h1_) (by decide), Q_GW163, Q_GE163, Q_NB127_163, Q_NB163_127, Q_NB145_163, Q_NB163_145, Q_BK163_e11, Q_X6_, Q_X7_, Q_X8_, Q_X10_⟩
            exact steps_nil
           rintro b a w69 hall ⟨v153, v156, v160, gb163, m6_, m7_, m8_, m10_, ha, Q_HO126, Q_HO136, Q_HO139, Q_HO143, Q_BK127, Q_BK145, Q_HB, Q_HO154, Q_HO157, Q_HO161, Q_BK163, Q_GW163, Q_GE163, Q_NB127_163, Q_NB163_127, Q_NB145_163, Q_NB163_145, Q_BK163_e11, Q_X6_, Q_X7_, Q_X8_, Q_X10_⟩
           clear BK127 BK145 HB HO126 HO136 HO139 HO143
           have hb0_ := hall 0 (by kernel_rfl)
           have hb1_ := hall 1 (by kernel_rfl)
           have hb2_ := hall 2 (by kernel_rfl)
           have hb3_ := hall 3 (by kernel_rfl)
           have hb4_ := hall 4 (by kernel_rfl)
           have hb5_ := hall 5 (by kernel_rfl)
           have hb6_ := hall 6 (by kernel_rfl)
           have hb7_ := hall 7 (by kernel_rfl)
           have hb8_ := hall 8 (by kernel_rfl)
           have hb9_ := hall 9 (by kernel_rfl)
           have hb10_ := hall 10 (by kernel_rfl)
           have hb11_ := hall 11 (by kernel_rfl)
           have hb12_ := hall 12 (by kernel_rfl)
           subst ha
           obtain rfl := Q_X6_ hb6_
           obtain rfl := Q_X7_ hb7_
           obtain rfl := Q_X8_ hb8_
           obtain rfl := Q_X10_ hb10_
           simp only [putSel, hb0_, hb1_, hb2_, hb3_, hb4_, hb5_, hb6_, hb7_, hb8_, hb9_, hb10_, hb11_, hb12_, if_true, Act.put, sl1, sl2, sl3]
           have HO126 := Aside0.mk Q_HO126
           clear Q_HO126
           have HO136 := Aside0.mk Q_HO136
           clear Q_HO136
           have HO139 := Aside0.mk Q_HO139
           clear Q_HO139
           have HO143 := Aside0.mk Q_HO143
           clear Q_HO143
           have BK127 := Aside0.mk Q_BK127
           clear Q_BK127
           have BK145 := Aside0.mk Q_BK145
           clear Q_BK145
           have HB := Aside0.mk Q_HB
           clear Q_HB
           have HO154 := Aside0.mk (Q_HO154 hb4_)
           clear Q_HO154
           have HO157 := Aside0.mk (Q_HO157 hb5_)
           clear Q_HO157
           have HO161 := Aside0.mk (Q_HO161 hb6_)
           clear Q_HO161
           clear Q_BK163
           have GW163 := Aside0.mk (Q_GW163 hb10_)
           clear Q_GW163
           have GE163 := Aside0.mk (Q_GE163 hb10_)
           clear Q_GE163
           have NB127_163 := Aside0.mk (Q_NB127_163 hb10_)
           clear Q_NB127_163
           have NB163_127 := Aside0.mk (Q_NB163_127 hb10_)
           clear Q_NB163_127
           have NB145_163 := Aside0.mk (Q_NB145_163 hb10_)
           clear Q_NB145_163
           have NB163_145 := Aside0.mk (Q_NB163_145 hb10_)
           clear Q_NB163_145
           have BK163 := Aside0.mk (Q_BK163_e11 hb11_)
           clear Q_BK163_e11
           clear hall hb0_ hb1_ hb2_ hb3_ hb4_ hb5_ hb6_ hb7_ hb8_ hb9_ hb10_ hb11_ hb12_
           have hnb70 := NB163_127.out
           have hnc70 := NB127_163.out
           have hnb71 := NB163_145.out
           have hnc71 := NB145_163.out
           have hcz72_0 := bc2_0 BK163.out
           have hcz72_1 := bc2_1 BK163.out
           have hfz72_0 := blk_frozen BK163.out 0
           have hfz72_1 := blk_frozen BK163.out 1
           obtain ⟨Ao73, co73, eo73⟩ := Kd.R_slice HO161.out
           subst eo73
           try go_wp2_with (first | ((with_reducible refine gate_callee (f := 13) rfl ?_); refine goesL_ (some 35) rfl rfl Tryd.func13 (by kernel_rfl) rfl #[.agg #[.int .i64 t158, .slice Ao73 t159.length co73]] rfl am ?_; (with_reducible refine (view_First.calls k t158 _ _ t159 t164 t165 t166 _ ?side1 ?side2 A12.out).mono ?_); (case side1 => repeat (first | exact (Kd.R_reads' HO161.out).2.2 | (with_reducible refine Kd.C_alloc ?_ _) | (with_reducible refine Kd.C_drewN ?_ _) | (with_reducible refine Kd.C_drew ?_))); (case side2 => exact (Kd.R_reads' HO161.out).2.1); rintro e w74 ⟨rfl, hb⟩; refine ⟨_, rfl, ?_⟩; have n0_ := Aside0.mk (Kd.R_below (by (with_reducible repeat (first | apply Kd.R_alloc | apply Kd.R_drewN | apply Kd.R_drew)); first | exact HO126.out | exact Kd.R_mono HO126.out (fun _ hk => fpk hk)) hb); have n1_ := Aside0.mk (Kd.R_below (by (with_reducible repeat (first | apply Kd.R_alloc | apply Kd.R_drewN | apply Kd.R_drew)); first | exact HO136.out | exact Kd.R_mono HO136.out (fun _ hk => fpk hk)) hb); have n2_ := Aside0.mk (Kd.R_below (by (with_reducible repeat (first | apply Kd.R_alloc | apply Kd.R_drewN | apply Kd.R_drew)); first | exact HO139.out | exact Kd.R_mono HO139.out (fun _ hk => fpk hk)) hb); have n3_ := Aside0.mk (Kd.R_below (by (with_reducible repeat (first | apply Kd.R_alloc | apply Kd.R_drewN | apply Kd.R_drew)); first | exact HO143.out | exact Kd.R_mono HO143.out (fun _ hk => fpk hk)) hb); have n4_ := Aside0.mk (Kd.R_below (by (with_reducible repeat (first | apply Kd.R_alloc | apply Kd.R_drewN | apply Kd.R_drew)); first | exact HO154.out | exact Kd.R_mono HO154.out (fun _ hk => fpk hk)) hb); have n5_ := Aside0.mk (Kd.R_below (by (with_reducible repeat (first | apply Kd.R_alloc | apply Kd.R_drewN | apply Kd.R_drew)); first | exact HO157.out | exact Kd.R_mono HO157.out (fun _ hk => fpk hk)) hb); have n6_ := Aside0.mk (Kd.R_below (by (with_reducible repeat (first | apply Kd.R_alloc | apply Kd.R_drewN | apply Kd.R_drew)); first | exact HO161.out | exact Kd.R_mono HO161.out (fun _ hk => fpk hk)) hb); have n7_ := Aside0.mk (nb BK127.out hb); have n8_ := Aside0.mk (nb BK145.out hb); have n9_ := Aside0.mk (nb BK163.out hb); have n10_ := Aside0.mk (below_step bw hb); clear HO126; clear HO136; clear HO139; clear HO143; clear HO154; clear HO157; clear HO161; clear BK127; clear BK145; clear BK163; clear HB; have HO126 := n0_; have HO136 := n1_; have HO139 := n2_; have HO143 := n3_; have HO154 := n4_; have HO157 := n5_; have HO161 := n6_; have BK127 := n7_; have BK145 := n8_; have BK163 := n9_; have HB := n10_; clear n0_ n1_ n2_ n3_ n4_ n5_ n6_ n7_ n8_ n9_ n10_; (try clear hb); (try clear hb2); (try clear hk); (try clear hi)) | ((with_reducible refine gate_dst (N := 6) rfl ?_); (try (refine gate_guard (by rfl) ?_; dsimp only)); refine box_event ?hg (N := 6) ?hd (cs := #[.int .i64 0, .int .i64 0]) (t := 38) ?hr ?_; (case hd => rfl); (case hg => rfl); (case hr => first | (go_simp; done) | (go_simp; rfl)); intro gb167 hg w75 hbox hb; have n0_ := Aside0.mk (Kd.R_below (Kd.R_elderB (by (with_reducible repeat (first | apply Kd.R_alloc | apply Kd.R_drewN | apply Kd.R_drew)); first | exact HO126.out | exact Kd.R_mono HO126.out (fun _ hk => fpk hk)) gb167 (Nat.le_of_eq hg.symm)) hb); have n1_ := Aside0.mk (Kd.R_below (Kd.R_elderB (by (with_reducible repeat (first | apply Kd.R_alloc | apply Kd.R_drewN | apply Kd.R_drew)); first | exact HO136.out | exact Kd.R_mono HO136.out (fun _ hk => fpk hk)) gb167 (Nat.le_of_eq hg.symm)) hb); have n2_ := Aside0.mk (Kd.R_below (by (with_reducible repeat (first | apply Kd.R_alloc | apply Kd.R_drewN | apply Kd.R_drew)); first | exact HO139.out | exact Kd.R_mono HO139.out (fun _ hk => fpk hk)) hb); have n3_ := Aside0.mk (Kd.R_below (Kd.R_elderB (by (with_reducible repeat (first | apply Kd.R_alloc | apply Kd.R_drewN | apply Kd.R_drew)); first | exact HO143.out | exact Kd.R_mono HO143.out (fun _ hk => fpk hk)) gb167 (Nat.le_of_eq hg.symm)) hb); have n4_ := Aside0.mk (Kd.R_below (Kd.R_elderB (by (with_reducible repeat (first | apply Kd.R_alloc | apply Kd.R_drewN | apply Kd.R_drew)); first | exact HO154.out | exact Kd.R_mono HO154.out (fun _ hk => fpk hk)) gb167 (Nat.le_of_eq hg.symm)) hb); have n5_ := Aside0.mk (Kd.R_below (by (with_reducible repeat (first | apply Kd.R_alloc | apply Kd.R_drewN | apply Kd.R_drew)); first | exact HO157.out | exact Kd.R_mono HO157.out (fun _ hk => fpk hk)) hb); have n6_ := Aside0.mk (Kd.R_below (Kd.R_elderB (by (with_reducible repeat (first | apply Kd.R_alloc | apply Kd.R_drewN | apply Kd.R_drew)); first | exact HO161.out | exact Kd.R_mono HO161.out (fun _ hk => fpk hk)) gb167 (Nat.le_of_eq hg.symm)) hb); have n7_ := Aside0.mk (nb BK127.out hb); have n8_ := Aside0.mk (nb BK145.out hb); have n9_ := Aside0.mk (nb BK163.out hb); have n10_ := Aside0.mk (below_step bw hb); have n11_ := Aside0.mk (hbox); have n12_ := Aside0.mk ((g1 hg bw : w.heap.size ≤ gb167)); have n13_ := Aside0.mk ((g1 hg bw : w.heap.size ≤ gb167)); have n14_ := Aside0.mk ((n1 hg BK127.out : gb127 ≠ gb167)); have n15_ := Aside0.mk ((n2 hg BK127.out : gb167 ≠ gb127)); have n16_ := Aside0.mk ((n1 hg BK145.out : gb145 ≠ gb167)); have n17_ := Aside0.mk ((n2 hg BK145.out : gb167 ≠ gb145)); have n18_ := Aside0.mk ((n1 hg BK163.out : gb163 ≠ gb167)); have n19_ := Aside0.mk ((n2 hg BK163.out : gb167 ≠ gb163)); clear HO126; clear HO136; clear HO139; clear HO143; clear HO154; clear HO157; clear HO161; clear BK127; clear BK145; clear BK163; clear HB; have HO126 := n0_; have HO136 := n1_; have HO139 := n2_; have HO143 := n3_; have HO154 := n4_; have HO157 := n5_; have HO161 := n6_; have BK127 := n7_; have BK145 := n8_; have BK163 := n9_; have HB := n10_; have BK167 := n11_; have GW167 := n12_; have GE167 := n13_; have NB127_167 := n14_; have NB167_127 := n15_; have NB145_167 := n16_; have NB167_145 := n17_; have NB163_167 := n18_; have NB167_163 := n19_; clear n0_ n1_ n2_ n3_ n4_ n5_ n6_ n7_ n8_ n9_ n10_ n11_ n12_ n13_ n14_ n15_ n16_ n17_ n18_ n19_; clear hb hbox hg; have hnb76 := NB167_127.out; have hnc76 := NB127_167.out; have hnb77 := NB167_145.out; have hnc77 := NB145_167.out; have hnb78 := NB167_163.out; have hnc78 := NB163_167.out; have hcz79_0 := bc2_0 BK167.out; have hcz79_1 := bc2_1 BK167.out; have hfz79_0 := blk_frozen BK167.out 0; have hfz79_1 := blk_frozen BK167.out 1))
           have n0_ : Aside0 (Kd.R k38 38 ((w75.setCell ⟨gb167, 0, none⟩ (.int .i64 t164)).setCell ⟨gb167, 1, none⟩ (.int .i64 t165)) w.heap.size (fun _ => True) (.slice Ao34 y124.length co34) y124) := ⟨by (with_reducible repeat (first | apply Kd.R_alloc | apply Kd.R_drewN | apply Kd.R_drew)); exact Kd.R_mono (Kd.R_far (p := ⟨gb167, 1, none⟩) (Kd.R_far (p := ⟨gb167, 0, none⟩) (Kd.R_mono HO126.out (fun k_ hk => (⟨hk, hk.2⟩ : _ ∧ k_ ≠ gb167))) (fun _ hk => fpk hk) (.int .i64 t164)) (fun _ hk => fpk hk) (.int .i64 t165)) (fun _ hk => fpk hk)⟩
           have n1_ : Aside0 (Kd.R k38 38 ((w75.setCell ⟨gb167, 0, none⟩ (.int .i64 t164)).setCell ⟨gb167, 1, none⟩ (.int .i64 t165)) w.heap.size (fun _ => True) v135 y134) := ⟨by (with_reducible repeat (first | apply Kd.R_alloc | apply Kd.R_drewN | apply Kd.R_drew)); exact Kd.R_mono (Kd.R_far (p := ⟨gb167, 1, none⟩) (Kd.R_far (p := ⟨gb167, 0, none⟩) (Kd.R_mono HO136.out (fun k_ hk => (⟨hk, hk.2⟩ : _ ∧ k_ ≠ gb167))) (fun _ hk => fpk hk) (.int .i64 t164)) (fun _ hk => fpk hk) (.int .i64 t165)) (fun _ hk => fpk hk)⟩
           have n2_ : Aside0 (Kd.R (Kd.int .i64) 3 ((w75.setCell ⟨gb167, 0, none⟩ (.int .i64 t164)).setCell ⟨gb167, 1, none⟩ (.int .i64 t165)) w.heap.size (fun _ => True) v138 y137) := ⟨by (with_reducible repeat (first | apply Kd.R_alloc | apply Kd.R_drewN | apply Kd.R_drew)); exact Kd.R_mono (Kd.R_far (p := ⟨gb167, 1, none⟩) (Kd.R_far (p := ⟨gb167, 0, none⟩) (Kd.R_types HO139.out BK167.out (by decide)) (fun _ hk => fpk hk) (.int .i64 t164)) (fun _ hk => fpk hk) (.int .i64 t165)) (fun _ hk => fpk hk)⟩
           have n3_ : Aside0 (Kd.R k38 38 ((w75.setCell ⟨gb167, 0, none⟩ (.int .i64 t164)).setCell ⟨gb167, 1, none⟩ (.int .i64 t165)) w.heap.size (fun _ => True) v142 t141) := ⟨by (with_reducible repeat (first | apply Kd.R_alloc | apply Kd.R_drewN | apply Kd.R_drew)); exact Kd.R_mono (Kd.R_far (p := ⟨gb167, 1, none⟩) (Kd.R_far (p := ⟨gb167, 0, none⟩) (Kd.R_mono HO143.out (fun k_ hk => (⟨hk, hk.2⟩ : _ ∧ k_ ≠ gb167))) (fun _ hk => fpk hk) (.int .i64 t164)) (fun _ hk => fpk hk) (.int .i64 t165)) (fun _ hk => fpk hk)⟩
           have n4_ : Aside0 (Kd.R k38 38 ((w75.setCell ⟨gb167, 0, none⟩ (.int .i64 t164)).setCell ⟨gb167, 1, none⟩ (.int .i64 t165)) w.heap.size (fun _ => True) v153 y152) := ⟨by (with_reducible repeat (first | apply Kd.R_alloc | apply Kd.R_drewN | apply Kd.R_drew)); exact Kd.R_mono (Kd.R_far (p := ⟨gb167, 1, none⟩) (Kd.R_far (p := ⟨gb167, 0, none⟩) (Kd.R_mono HO154.out (fun k_ hk => (⟨hk, hk.2⟩ : _ ∧ k_ ≠ gb167))) (fun _ hk => fpk hk) (.int .i64 t164)) (fun _ hk => fpk hk) (.int .i64 t165)) (fun _ hk => fpk hk)⟩
           have n5_ : Aside0 (Kd.R (Kd.int .i64) 3 ((w75.setCell ⟨gb167, 0, none⟩ (.int .i64 t164)).setCell ⟨gb167, 1, none⟩ (.int .i64 t165)) w.heap.size (fun _ => True) v156 y155) := ⟨by (with_reducible repeat (first | apply Kd.R_alloc | apply Kd.R_drewN | apply Kd.R_drew)); exact Kd.R_mono (Kd.R_far (p := ⟨gb167, 1, none⟩) (Kd.R_far (p := ⟨gb167, 0, none⟩) (Kd.R_types HO157.out BK167.out (by decide)) (fun _ hk => fpk hk) (.int .i64 t164)) (fun _ hk => fpk hk) (.int .i64 t165)) (fun _ hk => fpk hk)⟩
           have n6_ : Aside0 (Kd.R k38 38 ((w75.setCell ⟨gb167, 0, none⟩ (.int .i64 t164)).setCell ⟨gb167, 1, none⟩ (.int .i64 t165)) w.heap.size (fun _ => True) (.slice Ao73 t159.length co73) t159) := ⟨by (with_reducible repeat (first | apply Kd.R_alloc | apply Kd.R_drewN | apply Kd.R_drew)); exact Kd.R_mono (Kd.R_far (p := ⟨gb167, 1, none⟩) (Kd.R_far (p := ⟨gb167, 0, none⟩) (Kd.R_mono HO161.out (fun k_ hk => (⟨hk, hk.2⟩ : _ ∧ k_ ≠ gb167))) (fun _ hk => fpk hk) (.int .i64 t164)) (fun _ hk => fpk hk) (.int .i64 t165)) (fun _ hk => fpk hk)⟩
           have n7_ : Aside0 (((w75.setCell ⟨gb167, 0, none⟩ (.int .i64 t164)).setCell ⟨gb167, 1, none⟩ (.int .i64 t165)).heap[gb127]? = some (.cells #[.int .i64 1, .slice Ao34 y124.length co34] 24 (0, 0))) := ⟨by (with_reducible repeat (first | refine blk_drewN ?_ _ | refine blk_drew ?_ | refine blk_alloc ?_ _ | refine blk_far ?_ NB127_167.out _)); exact BK127.out⟩
           have n8_ : Aside0 (((w75.setCell ⟨gb167, 0, none⟩ (.int .i64 t164)).setCell ⟨gb167, 1, none⟩ (.int .i64 t165)).heap[gb145]? = some (.cells #[.int .i64 t140, v142] 24 (0, 0))) := ⟨by (with_reducible repeat (first | refine blk_drewN ?_ _ | refine blk_drew ?_ | refine blk_alloc ?_ _ | refine blk_far ?_ NB145_167.out _)); exact BK145.out⟩
           have n9_ : Aside0 (((w75.setCell ⟨gb167, 0, none⟩ (.int .i64 t164)).setCell ⟨gb167, 1, none⟩ (.int .i64 t165)).heap[gb163]? = some (.cells #[.int .i64 t158, .slice Ao73 t159.length co73] 24 (0, 0))) := ⟨by (with_reducible repeat (first | refine blk_drewN ?_ _ | refine blk_drew ?_ | refine blk_alloc ?_ _ | refine blk_far ?_ NB163_167.out _)); exact BK163.out⟩
           have n10_ : Aside0 (((w75.setCell ⟨gb167, 0, none⟩ (.int .i64 t164)).setCell ⟨gb167, 1, none⟩ (.int .i64 t165)).heap[gb167]? = some (.cells #[.int .i64 t164, .int .i64 t165] 38 (0, 0))) := ⟨by (with_reducible repeat (first | refine blk_drewN ?_ _ | refine blk_drew ?_ | refine blk_alloc ?_ _)); refine blk_put (cs := #[.int .i64 t164, .int .i64 0]) ?_ 1 _ rfl; (with_reducible repeat (first | refine blk_drewN ?_ _ | refine blk_drew ?_ | refine blk_alloc ?_ _)); refine blk_put (cs := #[.int .i64 0, .int .i64 0]) ?_ 0 _ rfl; (with_reducible repeat (first | refine blk_drewN ?_ _ | refine blk_drew ?_ | refine blk_alloc ?_ _)); exact BK167.out⟩
           have n11_ : Aside0 (Below w.heap.size w ((w75.setCell ⟨gb167, 0, none⟩ (.int .i64 t164)).setCell ⟨gb167, 1, none⟩ (.int .i64 t165))) := ⟨bw⟩
           (try clear HO126)
           (try clear HO136)
           (try clear HO139)
           (try clear HO143)
           (try clear HO154)
           (try clear HO157)
           (try clear HO161)
           (try clear BK127)
           (try clear BK145)
           (try clear BK163)
           (try clear BK167)
           (try clear HB)
           generalize ((w75.setCell ⟨gb167, 0, none⟩ (.int .i64 t164)).setCell ⟨gb167, 1, none⟩ (.int .i64 t165)) = w80 at n0_ n1_ n2_ n3_ n4_ n5_ n6_ n7_ n8_ n9_ n10_ n11_ ⊢
           have HO126 := n0_
           have HO136 := n1_
           have HO139 := n2_
           have HO143 := n3_
           have HO154 := n4_
           have HO157 := n5_
           have HO161 := n6_
           have BK127 := n7_
           have BK145 := n8_
           have BK163 := n9_
           have BK167 := n10_
           have HB := n11_
           clear n0_ n1_ n2_ n3_ n4_ n5_ n6_ n7_ n8_ n9_ n10_ n11_
           have n0_ := Aside0.mk (Kd.R_drew HO126.out)
           have n1_ := Aside0.mk (Kd.R_drew HO136.out)
           have n2_ := Aside0.mk (Kd.R_drew HO139.out)
           have n3_ := Aside0.mk (Kd.R_drew HO143.out)
           have n4_ := Aside0.mk (Kd.R_drew HO154.out)
           have n5_ := Aside0.mk (Kd.R_drew HO157.out)
           have n6_ := Aside0.mk (Kd.R_drew HO161.out)
           have n7_ := Aside0.mk (blk_drew BK127.out)
           have n8_ := Aside0.mk (blk_drew BK145.out)
           have n9_ := Aside0.mk (blk_drew BK163.out)
           have n10_ := Aside0.mk (blk_drew BK167.out)
           have n11_ := Aside0.mk (below_drew1 HB.out)
           clear HO126
           clear HO136
           clear HO139
           clear HO143
           clear HO154
           clear HO157
           clear HO161
           clear BK127
           clear BK145
           clear BK163
           clear BK167
           clear HB
           have HO126 := n0_
           have HO136 := n1_
           have HO139 := n2_
           have HO143 := n3_
           have HO154 := n4_
           have HO157 := n5_
           have HO161 := n6_
           have BK127 := n7_
           have BK145 := n8_
           have BK163 := n9_
           have BK167 := n10_
           have HB := n11_
           clear n0_ n1_ n2_ n3_ n4_ n5_ n6_ n7_ n8_ n9_ n10_ n11_
           have p168 : 0 ≤ (2 : Int) := (by omega)
           have q168 : 2 < (t159.length : Int) := of_decide_eq_true (by first | (with_reducible assumption) | assumption)
           obtain ⟨ad168, e168, hx168_0, hx168_1⟩ := at_T38 (Kd.R_reads' HO161.out).2.2 2 p168 q168
           cases e168
           (try simp only [show (2 : Int).toNat = 2 from rfl, Nat.reduceMul, Nat.reduceEqDiff, Go.Addr.add, ↓reduceIte] at hx168_0)
           (try simp only [show (2 : Int).toNat = 2 from rfl, Nat.reduceMul, Nat.reduceEqDiff, Go.Addr.add, ↓reduceIte] at hx168_1)
           have qi168 : (2 < t159.length) = True := eq_true (by omega)
           (try rw [show ((2 : Int)).toNat = 2 from rfl] at hx168_0)
           (try rw [show 2 * 2 = 4 from rfl] at hx168_0)
           (try rw [show ((2 : Int)).toNat = 2 from rfl] at hx168_1)
           (try rw [show 2 * 2 = 4 from rfl] at hx168_1)
           replace p168 := eq_true p168
           replace q168 := eq_true q168
           refine start_ (n := 51) (S := fun w' => w'.cell? ⟨gb163, 0, none⟩ = some (.int .i64 t158) ∧ w'.cell? ⟨gb163, 1, none⟩ = some (.slice (some ad168) t159.length co73) ∧ w'.cell? ⟨gb167, 0, none⟩ = some (.int .i64 t164) ∧ w'.cell? ⟨gb167, 1, none⟩ = some (.int .i64 t165) ∧ w'.cell? ⟨gb127, 0, none⟩ = some (.int .i64 1) ∧ w'.cell? ⟨gb127, 1, none⟩ = some (.slice Ao34 y124.length co34) ∧ w'.cell? ⟨ad168.block, ad168.off + 4, none⟩ = some (.int .i64 ((rd_T38 t159 2).f0)) ∧ w'.cell? ⟨ad168.block, ad168.off + 4 + 1, none⟩ = some (.int .i64 ((rd_T38 t159 2).f1))) (ds := []) #[false, false, false, false, false, false, false, false, false, false, false, false, false, false, false, false, false, false, false, false, false, false, false, false, false, false, false, false, false, false, false, false, false, false, false, false, false, false, false, false, false, false, false, false, false, false, false, false, false, false, false] (by kernel_rfl) rfl rfl ⟨(blk_cell BK163.out 0).trans rfl, (blk_cell BK163.out 1).trans rfl, (blk_cell BK167.out 0).trans rfl, (blk_cell BK167.out 1).trans rfl, (blk_cell BK127.out 0).trans rfl, (blk_cell BK127.out 1).trans rfl, hx168_0, hx168_1⟩ (fun hHeld => ?_); refine with_tabW carillonlaw12_examples.tab5 carillonlaw12_examples.bits5 (fun HT_ HW_ => ?_)
           generalize w80.drew = w81 at HO126 HO136 HO139 HO143 HO154 HO157 HO161 BK127 BK145 BK163 BK167 HB hx168_0 hx168_1 hHeld ⊢
           refine pure_ (i := 0) (N := some 38) (v := ?_) (a' := ?_) #[true, false, false, false, false, false, false, false, false, false, false, false, false, false, false, false, false, false, false, false, false, false, false, false, false, false, false, false, false, false, false, false, false, false, false, false, false, false, false, false, false, false, false, false, false, false, false, false, false, false, false] rfl rfl (any_of HT_.out (by kernel_rfl)) (fun _ _ _ h => h) (Or.inl ⟨by rfl, ?_⟩) ?_ ?_
           rotate_left
           ·intro w'
            go_simp
            with_reducible rfl
           rotate_left
           ·simp only [Act.put, sl1, sl2, sl3, i64_w, i32_w]
            rfl
           refine pure_ (i := 1) (N := some 39) (v := ?_) (a' := ?_) #[true, true, false, false, false, false, false, false, false, false, false, false, false, false, false, false, false, false, false, false, false, false, false, false, false, false, false, false, false, false, false, false, false, false, false, false, false, false, false, false, false, false, false, false, false, false, false, false, false, false, false] rfl rfl (any_of HT_.out (by kernel_rfl)) (fun _ _ _ h => h) (Or.inl ⟨by rfl, ?_⟩) ?_ ?_
           rotate_left
           ·intro w'
            go_simp
            with_reducible rfl
           rotate_left
           ·simp only [Act.put, sl1, sl2, sl3, i64_w, i32_w]
            rfl
           refine pure_ (i := 2) (N := some 40) (v := ?_) (a' := ?_) #[true, true, true, false, false, false, false, false, false, false, false, false, false, false, false, false, false, false, false, false, false, false, false, false, false, false, false, false, false, false, false, false, false, false, false, false, false, false, false, false, false, false, false, false, false, false, false, false, false, false, false] rfl rfl (any_of HT_.out (by kernel_rfl)) (fun _ _ _ h => h) (Or.inl ⟨by rfl, ?_⟩) ?_ ?_
           rotate_left
           ·intro w'
            go_simp
            with_reducible rfl
           rotate_left
           ·simp only [Act.put, sl1, sl2, sl3, i64_w, i32_w]
            rfl
           refine pure_ (i := 3) (N := some 41) (v := ?_) (a' := ?_) #[true, true, true, true, false, false, false, false, false, false, false, false, false, false, false, false, false, false, false, false, false, false, false, false, false, false, false, false, false, false, false, false, false, false, false, false, false, false, false, false, false, false, false, false, false, false, false, false, false, false, false] rfl rfl (any_of HT_.out (by kernel_rfl)) (fun _ _ _ h => h) (Or.inl ⟨by rfl, ?_⟩) ?_ ?_
           rotate_left
           ·intro w'
            go_simp
            with_reducible rfl
           rotate_left
           ·simp only [Act.put, sl1, sl2, sl3, i64_w, i32_w]
            rfl
           refine pure_ (i := 4) (N := some 42) (v := ?_) (a' := ?_) #[true, true, true, true, true, false, false, false, false, false, false, false, false, false, false, false, false, false, false, false, false, false, false, false, false, false, false, false, false, false, false, false, false, false, false, false, false, false, false, false, false, false, false, false, false, false, false, false, false, false, false] rfl rfl (any_of HT_.out (by kernel_rfl)) (fun _ _ _ h => h) (Or.inl ⟨by rfl, ?_⟩) ?_ ?_
           rotate_left
           ·intro w'
            go_simp
            with_reducible rfl
           rotate_left
           ·simp only [Act.put, sl1, sl2, sl3, i64_w, i32_w]
            rfl
           refine pure_ (i := 5) (N := some 43) (v := ?_) (a' := ?_) #[true, true, true, true, true, true, false, false, false, false, false, false, false, false, false, false, false, false, false, false, false, false, false, false, false, false, false, false, false, false, false, false, false, false, false, false, false, false, false, false, false, false, false, false, false, false, false, false, false, false, false] rfl rfl (any_of HT_.out (by kernel_rfl)) (fun _ _ _ h => h) (Or.inl ⟨by rfl, ?_⟩) ?_ ?_
           rotate_left
           ·intro w'
            go_simp
            with_reducible rfl
           rotate_left
           ·simp only [Act.put, sl1, sl2, sl3, i64_w, i32_w]
            rfl
           refine pure_ (i := 6) (N := some 44) (v := ?_) (a' := ?_) #[true, true, true, true, true, true, true, false, false, false, false, false, false, false, false, false, false, false, false, false, false, false, false, false, false, false, false, false, false, false, false, false, false, false, false, false, false, false, false, false, false, false, false, false, false, false, false, false, false, false, false] rfl rfl (any_of HT_.out (by kernel_rfl)) (fun _ _ _ h => h) (Or.inl ⟨by rfl, ?_⟩) ?_ ?_
           rotate_left
           ·intro w'
            go_simp
            with_reducible rfl
           rotate_left
           ·simp only [Act.put, sl1, sl2, sl3, i64_w, i32_w]
            rfl
           refine pure_ (i := 7) (N := some 45) (v := ?_) (a' := ?_) #[true, true, true, true, true, true, true, true, false, false, false, false, false, false, false, false, false, false, false, false, false, false, false, false, false, false, false, false, false, false, false, false, false, false, false, false, false, false, false, false, false, false, false, false, false, false, false, false, false, false, false] rfl rfl (any_of HT_.out (by kernel_rfl)) (fun _ _ _ h => h) (Or.inl ⟨by rfl, ?_⟩) ?_ ?_
           rotate_left
           ·intro w'
            go_simp
            with_reducible rfl
           rotate_left
           ·simp only [Act.put, sl1, sl2, sl3, i64_w, i32_w]
            rfl
           refine take_ (i := 8) (N := some 46) (v := ?_) (a' := ?_) #[true, true, true, true, true, true, true, true, true, false, false, false, false, false, false, false, false, false, false, false, false, false, false, false, false, false, false, false, false, false, false, false, false, false, false, false, false, false, false, false, false, false, false, false, false, false, false, false, false, false, false] rfl rfl (take_ofW HT_.out HW_.out (by kernel_rfl)) (fun _ _ _ h => h) (Or.inl ⟨by rfl, ?_⟩) hHeld ?_ ?_
           rotate_left
           ·rintro w' ⟨s0, s1, s2, s3, s4, s5, s6, s7⟩
            go_simp
            with_reducible rfl
           rotate_left
           ·simp only [Act.put, sl1, sl2, sl3, i64_w, i32_w]
            rfl
           refine pure_ (i := 9) (N := some 47) (v := ?_) (a' := ?_) #[true, true, true, true, true, true, true, true, true, true, false, false, false, false, false, false, false, false, false, false, false, false, false, false, false, false, false, false, false, false, false, false, false, false, false, false, false, false, false, false, false, false, false, false, false, false, false, false, false, false, false] rfl rfl (any_of HT_.out (by kernel_rfl)) (fun _ _ _ h => h) (Or.inl ⟨by rfl, ?_⟩) ?_ ?_
           rotate_left
           ·intro w'
            go_simp
            with_reducible rfl
           rotate_left
           ·simp only [Act.put, sl1, sl2, sl3, i64_w, i32_w]
            rfl
           refine pure_ (i := 10) (N := some 48) (v := ?_) (a' := ?_) #[true, true, true, true, true, true, true, true, true, true, true, false, false, false, false, false, false, false, false, false, false, false, false, false, false, false, false, false, false, false, false, false, false, false, false, false, false, false, false, false, false, false, false, false, false, false, false, false, false, false, false] rfl rfl (any_of HT_.out (by kernel_rfl)) (fun _ _ _ h => h) (Or.inl ⟨by rfl, ?_⟩) ?_ ?_
           rotate_left
           ·intro w'
            go_simp
            with_reducible rfl
           rotate_left
           ·simp only [Act.put, sl1, sl2, sl3, i64_w, i32_w]
            rfl
           refine pure_ (i := 11) (N := some 49) (v := ?_) (a' := ?_) #[true, true, true, true, true, true, true, true, true, true, true, true, false, false, false, false, false, false, false, false, false, false, false, false, false, false, false, false, false, false, false, false, false, false, false, false, false, false, false, false, false, false, false, false, false, false, false, false, false, false, false] rfl rfl (any_of HT_.out (by kernel_rfl)) (fun _ _ _ h => h) (Or.inl ⟨by rfl, ?_⟩) ?_ ?_
           rotate_left
           ·intro w'
            go_simp
            with_reducible rfl
           rotate_left
           ·simp only [Act.put, sl1, sl2, sl3, i64_w, i32_w]
            rfl
           refine pure_ (i := 12) (N := some 50) (v := ?_) (a' := ?_) #[true, true, true, true, true, true, true, true, true, true, true, true, true, false, false, false, false, false, false, false, false, false, false, false, false, false, false, false, false, false, false, false, false, false, false, false, false, false, false, false, false, false, false, false, false, false, false, false, false, false, false] rfl rfl (any_of HT_.out (by kernel_rfl)) (fun _ _ _ h => h) (Or.inl ⟨by rfl, ?_⟩) ?_ ?_
           rotate_left
           ·intro w'
            go_simp
            with_reducible rfl
           rotate_left
           ·simp only [Act.put, sl1, sl2, sl3, i64_w, i32_w]
            rfl
           refine take_ (i := 13) (N := some 51) (v := ?_) (a' := ?_) #[true, true, true, true, true, true, true, true, true, true, true, true, true, true, false, false, false, false, false, false, false, false, false, false, false, false, false, false, false, false, false, false, false, false, false, false, false, false, false, false, false, false, false, false, false, false, false, false, false, false, false] rfl rfl (take_ofW HT_.out HW_.out (by kernel_rfl)) (fun _ _ _ h => h) (Or.inl ⟨by rfl, ?_⟩) hHeld ?_ ?_
           rotate_left
           ·rintro w' ⟨s0, s1, s2, s3, s4, s5, s6, s7⟩
            go_simp
            with_reducible rfl
           rotate_left
           ·simp only [Act.put, sl1, sl2, sl3, i64_w, i32_w]
            rfl
           refine pure_ (i := 14) (N := some 52) (v := ?_) (a' := ?_) #[true, true, true, true, true, true, true, true, true, true, true, true, true, true, true, false, false, false, false, false, false, false, false, false, false, false, false, false, false, false, false, false, false, false, false, false, false, false, false, false, false, false, false, false, false, false, false, false, false, false, false] rfl rfl (any_of HT_.out (by kernel_rfl)) (fun _ _ _ h => h) (Or.inl ⟨by rfl, ?_⟩) ?_ ?_
           rotate_left
           ·intro w'
            go_simp
            with_reducible rfl
           rotate_left
           ·simp only [Act.put, sl1, sl2, sl3, i64_w, i32_w]
            rfl
           refine pure_ (i := 15) (N := some 53) (v := ?_) (a' := ?_) #[true, true, true, true, true, true, true, true, true, true, true, true, true, true, true, true, false, false, false, false, false, false, false, false, false, false, false, false, false, false, false, false, false, false, false, false, false, false, false, false, false, false, false, false, false, false, false, false, false, false, false] rfl rfl (any_of HT_.out (by kernel_rfl)) (fun _ _ _ h => h) (Or.inl ⟨by rfl, ?_⟩) ?_ ?_
           rotate_left
           ·intro w'
            go_simp
            with_reducible rfl
           rotate_left
           ·simp only [Act.put, sl1, sl2, sl3, i64_w, i32_w]
            rfl
           refine pure_ (i := 16) (N := some 54) (v := ?_) (a' := ?_) #[true, true, true, true, true, true, true, true, true, true, true, true, true, true, true, true, true, false, false, false, false, false, false, false, false, false, false, false, false, false, false, false, false, false, false, false, false, false, false, false, false, false, false, false, false, false, false, false, false, false, false] rfl rfl (any_of HT_.out (by kernel_rfl)) (fun _ _ _ h => h) (Or.inl ⟨by rfl, ?_⟩) ?_ ?_
           rotate_left
           ·intro w'
            go_simp
            with_reducible rfl
           rotate_left
           ·simp only [Act.put, sl1, sl2, sl3, i64_w, i32_w]
            rfl
           refine pure_ (i := 17) (N := some 55) (v := ?_) (a' := ?_) #[true, true, true, true, true, true, true, true, true, true, true, true, true, true, true, true, true, true, false, false, false, false, false, false, false, false, false, false, false, false, false, false, false, false, false, false, false, false, false, false, false, false, false, false, false, false, false, false, false, false, false] rfl rfl (any_of HT_.out (by kernel_rfl)) (fun _ _ _ h => h) (Or.inl ⟨by rfl, ?_⟩) ?_ ?_
           rotate_left
           ·intro w'
            go_simp
            with_reducible rfl
           rotate_left
           ·simp only [Act.put, sl1, sl2, sl3, i64_w, i32_w]
            rfl
           refine pure_ (i := 18) (N := some 56) (v := ?_) (a' := ?_) #[true, true, true, true, true, true, true, true, true, true, true, true, true, true, true, true, true, true, true, false, false, false, false, false, false, false, false, false, false, false, false, false, false, false, false, false, false, false, false, false, false, false, false, false, false, false, false, false, false, false, false] rfl rfl (any_of HT_.out (by kernel_rfl)) (fun _ _ _ h => h) (Or.inl ⟨by rfl, ?_⟩) ?_ ?_
           rotate_left
           ·intro w'
            go_simp
            with_reducible rfl
           rotate_left
           ·simp only [Act.put, sl1, sl2, sl3, i64_w, i32_w]
            rfl
           refine take_ (i := 19) (N := some 57) (v := ?_) (a' := ?_) #[true, true, true, true, true, true, true, true, true, true, true, true, true, true, true, true, true, true, true, true, false, false, false, false, false, false, false, false, false, false, false, false, false, false, false, false, false, false, false, false, false, false, false, false, false, false, false, false, false, false, false] rfl rfl (take_ofW HT_.out HW_.out (by kernel_rfl)) (fun _ _ _ h => h) (Or.inl ⟨by rfl, ?_⟩) hHeld ?_ ?_
           rotate_left
           ·rintro w' ⟨s0, s1, s2, s3, s4, s5, s6, s7⟩
            go_simp
            with_reducible rfl
           rotate_left
           ·simp only [Act.put, sl1, sl2, sl3, i64_w, i32_w]
            rfl
           refine pure_ (i := 20) (N := some 58) (v := ?_) (a' := ?_) #[true, true, true, true, true, true, true, true, true, true, true, true, true, true, true, true, true, true, true, true, true, false, false, false, false, false, false, false, false, false, false, false, false, false, false, false, false, false, false, false, false, false, false, false, false, false, false, false, false, false, false] rfl rfl (any_of HT_.out (by kernel_rfl)) (fun _ _ _ h => h) (Or.inl ⟨by rfl, ?_⟩) ?_ ?_
           rotate_left
           ·intro w'
            go_simp
            with_reducible rfl
           rotate_left
           ·simp only [Act.put, sl1, sl2, sl3, i64_w, i32_w]
            rfl
           refine take_ (i := 21) (N := some 59) (v := ?_) (a' := ?_) #[true, true, true, true, true, true, true, true, true, true, true, true, true, true, true, true, true, true, true, true, true, true, false, false, false, false, false, false, false, false, false, false, false, false, false, false, false, false, false, false, false, false, false, false, false, false, false, false, false, false, false] rfl rfl (take_ofW HT_.out HW_.out (by kernel_rfl)) (fun _ _ _ h => h) (Or.inl ⟨by rfl, ?_⟩) hHeld ?_ ?_
           rotate_left
           ·rintro w' ⟨s0, s1, s2, s3, s4, s5, s6, s7⟩
            go_simp
            with_reducible rfl
           rotate_left
           ·simp only [Act.put, sl1, sl2, sl3, i64_w, i32_w]
            rfl
           refine one_ (i := 22) (N := some 60) #[true, true, true, true, true, true, true, true, true, true, true, true, true, true, true, true, true, true, true, true, true, true, true, false, false, false, false, false, false, false, false, false, false, false, false, false, false, false, false, false, false, false, false, false, false, false, false, false, false, false, false] rfl rfl (one_of HT_.out (by kernel_rfl)) (by decide) (fun K hK => ?_)
           refine goes_ Tryd.func11 (by kernel_rfl) rfl #[.int .i64 2, .int .i64 3] (by rfl) rfl rfl am ?_
           with_reducible refine (carillonlaw12_m.calls 2 3 t169 t170 _ A18.out).mono ?_
           rintro e w82 ⟨rfl, hb⟩
           have HS6_ := (hb.cell (World.block_lt_of_cell? _ _ (hHeld.2.2.2.2.2.2.1))).trans (hHeld.2.2.2.2.2.2.1)
           have HS7_ := (hb.cell (World.block_lt_of_cell? _ _ (hHeld.2.2.2.2.2.2.2))).trans (hHeld.2.2.2.2.2.2.2)
           refine ⟨_, rfl, ?_⟩
           have n0_ := Aside0.mk (Kd.R_below (by (with_reducible repeat (first | apply Kd.R_alloc | apply Kd.R_drewN | apply Kd.R_drew)); first | exact HO126.out | exact Kd.R_mono HO126.out (fun _ hk => fpk hk)) hb)
           have n1_ := Aside0.mk (Kd.R_below (by (with_reducible repeat (first | apply Kd.R_alloc | apply Kd.R_drewN | apply Kd.R_drew)); first | exact HO136.out | exact Kd.R_mono HO136.out (fun _ hk => fpk hk)) hb)
           have n2_ := Aside0.mk (Kd.R_below (by (with_reducible repeat (first | apply Kd.R_alloc | apply Kd.R_drewN | apply Kd.R_drew)); first | exact HO139.out | exact Kd.R_mono HO139.out (fun _ hk => fpk hk)) hb)
           have n3_ := Aside0.mk (Kd.R_below (by (with_reducible repeat (first | apply Kd.R_alloc | apply Kd.R_drewN | apply Kd.R_drew)); first | exact HO143.out | exact Kd.R_mono HO143.out (fun _ hk => fpk hk)) hb)
           have n4_ := Aside0.mk (Kd.R_below (by (with_reducible repeat (first | apply Kd.R_alloc | apply Kd.R_drewN | apply Kd.R_drew)); first | exact HO154.out | exact Kd.R_mono HO154.out (fun _ hk => fpk hk)) hb)
           have n5_ := Aside0.mk (Kd.R_below (by (with_reducible repeat (first | apply Kd.R_alloc | apply Kd.R_drewN | apply Kd.R_drew)); first | exact HO157.out | exact Kd.R_mono HO157.out (fun _ hk => fpk hk)) hb)
           have n6_ := Aside0.mk (Kd.R_below (by (with_reducible repeat (first | apply Kd.R_alloc | apply Kd.R_drewN | apply Kd.R_drew)); first | exact HO161.out | exact Kd.R_mono HO161.out (fun _ hk => fpk hk)) hb)
           have n7_ := Aside0.mk (nb BK127.out hb)
           have n8_ := Aside0.mk (nb BK145.out hb)
           have n9_ := Aside0.mk (nb BK163.out hb)
           have n10_ := Aside0.mk (nb BK167.out hb)
           have n11_ := Aside0.mk (below_step bw hb)
           clear HO126
           clear HO136
           clear HO139
           clear HO143
           clear HO154
           clear HO157
           clear HO161
           clear BK127
           clear BK145
           clear BK163
           clear BK167
           clear HB
           have HO126 := n0_
           have HO136 := n1_
           have HO139 := n2_
           have HO143 := n3_
           have HO154 := n4_
           have HO157 := n5_
           have HO161 := n6_
           have BK127 := n7_
           have BK145 := n8_
           have BK163 := n9_
           have BK167 := n10_
           have HB := n11_
           clear n0_ n1_ n2_ n3_ n4_ n5_ n6_ n7_ n8_ n9_ n10_ n11_
           (try clear hb)
           (try clear hb2)
           (try clear hk)
           (try clear hi)
           refine hK.out _ _ ⟨(blk_cell BK163.out 0).trans rfl, (blk_cell BK163.out 1).trans rfl, (blk_cell BK167.out 0).trans rfl, (blk_cell BK167.out 1).trans rfl, (blk_cell BK127.out 0).trans rfl, (blk_cell BK127.out 1).trans rfl, HS6_, HS7_⟩ (fun hHeld => ?_)
           clear hK K
           refine norm_ (a' := ?_) ?_ ?_
           rotate_left
           ·show Act.put _ (some 60) _ = _
            simp only [Act.put, sl1, sl2, sl3, i64_w, i32_w]
            rfl
           refine pure_ (i := 23) (N := some 61) (v := ?_) (a' := ?_) #[true, true, true, true, true, true, true, true, true, true, true, true, true, true, true, true, true, true, true, true, true, true, true, true, false, false, false, false, false, false, false, false, false, false, false, false, false, false, false, false, false, false, false, false, false, false, false, false, false, false, false] rfl rfl (any_of HT_.out (by kernel_rfl)) (fun _ _ _ h => h) (Or.inl ⟨by rfl, ?_⟩) ?_ ?_
           rotate_left
           ·intro w'
            go_simp
            with_reducible rfl
           rotate_left
           ·simp only [Act.put, sl1, sl2, sl3, i64_w, i32_w]
            rfl
           refine pure_ (i := 24) (N := some 62) (v := ?_) (a' := ?_) #[true, true, true, true, true, true, true, true, true, true, true, true, true, true, true, true, true, true, true, true, true, true, true, true, true, false, false, false, false, false, false, false, false, false, false, false, false, false, false, false, false, false, false, false, false, false, false, false, false, false, false] rfl rfl (any_of HT_.out (by kernel_rfl)) (fun _ _ _ h => h) (Or.inl ⟨by rfl, ?_⟩) ?_ ?_
           rotate_left
           ·intro w'
            go_simp
            with_reducible rfl
           rotate_left
           ·simp only [Act.put, sl1, sl2, sl3, i64_w, i32_w]
            rfl
           refine pure_ (i := 25) (N := some 63) (v := ?_) (a' := ?_) #[true, true, true, true, true, true, true, true, true, true, true, true, true, true, true, true, true, true, true, true, true, true, true, true, true, true, false, false, false, false, false, false, false, false, false, false, false, false, false, false, false, false, false, false, false, false, false, false, false, false, false] rfl rfl (any_of HT_.out (by kernel_rfl)) (fun _ _ _ h => h) (Or.inl ⟨by rfl, ?_⟩) ?_ ?_
           rotate_left
           ·intro w'
            go_simp
            with_reducible rfl
           rotate_left
           ·simp only [Act.put, sl1, sl2, sl3, i64_w, i32_w]
            rfl
           refine take_ (i := 26) (N := some 64) (v := ?_) (a' := ?_) #[true, true, true, true, true, true, true, true, true, true, true, true, true, true, true, true, true, true, true, true, true, true, true, true, true, true, true, false, false, false, false, false, false, false, false, false, false, false, false, false, false, false, false, false, false, false, false, false, false, false, false] rfl rfl (take_ofW HT_.out HW_.out (by kernel_rfl)) (fun _ _ _ h => h) (Or.inl ⟨by rfl, ?_⟩) hHeld ?_ ?_
           rotate_left
           ·rintro w' ⟨s0, s1, s2, s3, s4, s5, s6, s7⟩
            go_simp
            with_reducible rfl
           rotate_left
           ·simp only [Act.put, sl1, sl2, sl3, i64_w, i32_w]
            rfl
           refine one_ (i := 27) (N := some 65) #[true, true, true, true, true, true, true, true, true, true, true, true, true, true, true, true, true, true, true, true, true, true, true, true, true, true, true, true, false, false, false, false, false, false, false, false, false, false, false, false, false, false, false, false, false, false, false, false, false, false, false] rfl rfl (one_of HT_.out (by kernel_rfl)) (by decide) (fun K hK => ?_)
           refine goes_ Tryd.func11 (by kernel_rfl) rfl #[.int .i64 0, .int .i64 1] (by rfl) rfl rfl am ?_
           with_reducible refine (carillonlaw12_m.calls 0 1 t171 t172 _ A20.out).mono ?_
           rintro e w83 ⟨rfl, hb⟩
           have HS6_ := (hb.cell (World.block_lt_of_cell? _ _ (hHeld.2.2.2.2.2.2.1))).trans (hHeld.2.2.2.2.2.2.1)
           have HS7_ := (hb.cell (World.block_lt_of_cell? _ _ (hHeld.2.2.2.2.2.2.2))).trans (hHeld.2.2.2.2.2.2.2)
           refine ⟨_, rfl, ?_⟩
           have n0_ := Aside0.mk (Kd.R_below (by (with_reducible repeat (first | apply Kd.R_alloc | apply Kd.R_drewN | apply Kd.R_drew)); first | exact HO126.out | exact Kd.R_mono HO126.out (fun _ hk => fpk hk)) hb)
           have n1_ := Aside0.mk (Kd.R_below (by (with_reducible repeat (first | apply Kd.R_alloc | apply Kd.R_drewN | apply Kd.R_drew)); first | exact HO136.out | exact Kd.R_mono HO136.out (fun _ hk => fpk hk)) hb)
           have n2_ := Aside0.mk (Kd.R_below (by (with_reducible repeat (first | apply Kd.R_alloc | apply Kd.R_drewN | apply Kd.R_drew)); first | exact HO139.out | exact Kd.R_mono HO139.out (fun _ hk => fpk hk)) hb)
           have n3_ := Aside0.mk (Kd.R_below (by (with_reducible repeat (first | apply Kd.R_alloc | apply Kd.R_drewN | apply Kd.R_drew)); first | exact HO143.out | exact Kd.R_mono HO143.out (fun _ hk => fpk hk)) hb)
           have n4_ := Aside0.mk (Kd.R_below (by (with_reducible repeat (first | apply Kd.R_alloc | apply Kd.R_drewN | apply Kd.R_drew)); first | exact HO154.out | exact Kd.R_mono HO154.out (fun _ hk => fpk hk)) hb)
           have n5_ := Aside0.mk (Kd.R_below (by (with_reducible repeat (first | apply Kd.R_alloc | apply Kd.R_drewN | apply Kd.R_drew)); first | exact HO157.out | exact Kd.R_mono HO157.out (fun _ hk => fpk hk)) hb)
           have n6_ := Aside0.mk (Kd.R_below (by (with_reducible repeat (first | apply Kd.R_alloc | apply Kd.R_drewN | apply Kd.R_drew)); first | exact HO161.out | exact Kd.R_mono HO161.out (fun _ hk => fpk hk)) hb)
           have n7_ := Aside0.mk (nb BK127.out hb)
           have n8_ := Aside0.mk (nb BK145.out hb)
           have n9_ := Aside0.mk (nb BK163.out hb)
           have n10_ := Aside0.mk (nb BK167.out hb)
           have n11_ := Aside0.mk (below_step bw hb)
           clear HO126
           clear HO136
           clear HO139
           clear HO143
           clear HO154
           clear HO157
           clear HO161
           clear BK127
           clear BK145
           clear BK163
           clear BK167
           clear HB
           have HO126 := n0_
           have HO136 := n1_
           have HO139 := n2_
           have HO143 := n3_
           have HO154 := n4_
           have HO157 := n5_
           have HO161 := n6_
           have BK127 := n7_
           have BK145 := n8_
           have BK163 := n9_
           have BK167 := n10_
           have HB := n11_
           clear n0_ n1_ n2_ n3_ n4_ n5_ n6_ n7_ n8_ n9_ n10_ n11_
           (try clear hb)
           (try clear hb2)
           (try clear hk)
           (try clear hi)
           refine hK.out _ _ ⟨(blk_cell BK163.out 0).trans rfl, (blk_cell BK163.out 1).trans rfl, (blk_cell BK167.out 0).trans rfl, (blk_cell BK167.out 1).trans rfl, (blk_cell BK127.out 0).trans rfl, (blk_cell BK127.out 1).trans rfl, HS6_, HS7_⟩ (fun hHeld => ?_)
           clear hK K
           refine norm_ (a' := ?_) ?_ ?_
           rotate_left
           ·show Act.put _ (some 65) _ = _
            simp only [Act.put, sl1, sl2, sl3, i64_w, i32_w]
            rfl
           refine pure_ (i := 28) (N := some 66) (v := ?_) (a' := ?_) #[true, true, true, true, true, true, true, true, true, true, true, true, true, true, true, true, true, true, true, true, true, true, true, true, true, true, true, true, true, false, false, false, false, false, false, false, false, false, false, false, false, false, false, false, false, false, false, false, false, false, false] rfl rfl (any_of HT_.out (by kernel_rfl)) (fun _ _ _ h => h) (Or.inl ⟨by rfl, ?_⟩) ?_ ?_
           rotate_left
           ·intro w'
            go_simp
            with_reducible rfl
           rotate_left
           ·simp only [Act.put, sl1, sl2, sl3, i64_w, i32_w]
            rfl
           refine pure_ (i := 29) (N := some 67) (v := ?_) (a' := ?_) #[true, true, true, true, true, true, true, true, true, true, true, true, true, true, true, true, true, true, true, true, true, true, true, true, true, true, true, true, true, true, false, false, false, false, false, false, false, false, false, false, false, false, false, false, false, false, false, false, false, false, false] rfl rfl (any_of HT_.out (by kernel_rfl)) (fun _ _ _ h => h) (Or.inl ⟨by rfl, ?_⟩) ?_ ?_
           rotate_left
           ·intro w'
            go_simp
            with_reducible rfl
           rotate_left
           ·simp only [Act.put, sl1, sl2, sl3, i64_w, i32_w]
            rfl
           refine pure_ (i := 30) (N := some 68) (v := ?_) (a' := ?_) #[true, true, true, true, true, true, true, true, true, true, true, true, true, true, true, true, true, true, true, true, true, true, true, true, true, true, true, true, true, true, true, false, false, false, false, false, false, false, false, false, false, false, false, false, false, false, false, false, false, false, false] rfl rfl (any_of HT_.out (by kernel_rfl)) (fun _ _ _ h => h) (Or.inl ⟨by rfl, ?_⟩) ?_ ?_
           rotate_left
           ·intro w'
            go_simp
            with_reducible rfl
           rotate_left
           ·simp only [Act.put, sl1, sl2, sl3, i64_w, i32_w]
            rfl
           refine pure_ (i := 31) (N := some 69) (v := ?_) (a' := ?_) #[true, true, true, true, true, true, true, true, true, true, true, true, true, true, true, true, true, true, true, true, true, true, true, true, true, true, true, true, true, true, true, true, false, false, false, false, false, false, false, false, false, false, false, false, false, false, false, false, false, false, false] rfl rfl (any_of HT_.out (by kernel_rfl)) (fun _ _ _ h => h) (Or.inl ⟨by rfl, ?_⟩) ?_ ?_
           rotate_left
           ·intro w'
            go_simp
            with_reducible rfl
           rotate_left
           ·simp only [Act.put, sl1, sl2, sl3, i64_w, i32_w]
            rfl
           refine pure_ (i := 32) (N := some 70) (v := ?_) (a' := ?_) #[true, true, true, true, true, true, true, true, true, true, true, true, true, true, true, true, true, true, true, true, true, true, true, true, true, true, true, true, true, true, true, true, true, false, false, false, false, false, false, false, false, false, false, false, false, false, false, false, false, false, false] rfl rfl (any_of HT_.out (by kernel_rfl)) (fun _ _ _ h => h) (Or.inl ⟨by rfl, ?_⟩) ?_ ?_
           rotate_left
           ·intro w'
            go_simp
            with_reducible rfl
           rotate_left
           ·simp only [Act.put, sl1, sl2, sl3, i64_w, i32_w]
            rfl
           refine pure_ (i := 33) (N := some 71) (v := ?_) (a' := ?_) #[true, true, true, true, true, true, true, true, true, true, true, true, true, true, true, true, true, true, true, true, true, true, true, true, true, true, true, true, true, true, true, true, true, true, false, false, false, false, false, false, false, false, false, false, false, false, false, false, false, false, false] rfl rfl (any_of HT_.out (by kernel_rfl)) (fun _ _ _ h => h) (Or.inl ⟨by rfl, ?_⟩) ?_ ?_
           rotate_left
           ·intro w'
            go_simp
            with_reducible rfl
           rotate_left
           ·simp only [Act.put, sl1, sl2, sl3, i64_w, i32_w]
            rfl
           refine pure_ (i := 34) (N := some 72) (v := ?_) (a' := ?_) #[true, true, true, true, true, true, true, true, true, true, true, true, true, true, true, true, true, true, true, true, true, true, true, true, true, true, true, true, true, true, true, true, true, true, true, false, false, false, false, false, false, false, false, false, false, false, false, false, false, false, false] rfl rfl (any_of HT_.out (by kernel_rfl)) (fun _ _ _ h => h) (Or.inl ⟨by rfl, ?_⟩) ?_ ?_
           rotate_left
           ·intro w'
            go_simp
            with_reducible rfl
           rotate_left
           ·simp only [Act.put, sl1, sl2, sl3, i64_w, i32_w]
            rfl
           refine take_ (i := 35) (N := some 73) (v := ?_) (a' := ?_) #[true, true, true, true, true, true, true, true, true, true, true, true, true, true, true, true, true, true, true, true, true, true, true, true, true, true, true, true, true, true, true, true, true, true, true, true, false, false, false, false, false, false, false, false, false, false, false, false, false, false, false] rfl rfl (take_ofW HT_.out HW_.out (by kernel_rfl)) (fun _ _ _ h => h) (Or.inl ⟨by rfl, ?_⟩) hHeld ?_ ?_
           rotate_left
           ·rintro w' ⟨s0, s1, s2, s3, s4, s5, s6, s7⟩
            go_simp
            with_reducible rfl
           rotate_left
           ·simp only [Act.put, sl1, sl2, sl3, i64_w, i32_w]
            rfl
           refine one_ (i := 36) (N := some 74) #[true, true, true, true, true, true, true, true, true, true, true, true, true, true, true, true, true, true, true, true, true, true, true, true, true, true, true, true, true, true, true, true, true, true, true, true, true, false, false, false, false, false, false, false, false, false, false, false, false, false, false] rfl rfl (one_of HT_.out (by kernel_rfl)) (by decide) (fun K hK => ?_)
           refine goes_ Tryd.func14 (by kernel_rfl) rfl #[.agg #[.int .i64 1, .slice Ao34 y124.length co34]] (by rfl) rfl rfl am ?_
           with_reducible refine (view_Majority.calls 1 _ _ y124 t173 _ ?side1 ?side2 A23.out).mono ?_
           (case side1 => repeat (first | exact (Kd.R_reads' HO126.out).2.2 | (with_reducible refine Kd.C_alloc ?_ _) | (with_reducible refine Kd.C_drewN ?_ _) | (with_reducible refine Kd.C_drew ?_)))
           (case side2 => exact (Kd.R_reads' HO126.out).2.1)
           rintro e w84 ⟨rfl, hb⟩
           have HS6_ := (hb.cell (World.block_lt_of_cell? _ _ (hHeld.2.2.2.2.2.2.1))).trans (hHeld.2.2.2.2.2.2.1)
           have HS7_ := (hb.cell (World.block_lt_of_cell? _ _ (hHeld.2.2.2.2.2.2.2))).trans (hHeld.2.2.2.2.2.2.2)
           refine ⟨_, rfl, ?_⟩
           have n0_ := Aside0.mk (Kd.R_below (by (with_reducible repeat (first | apply Kd.R_alloc | apply Kd.R_drewN | apply Kd.R_drew)); first | exact HO126.out | exact Kd.R_mono HO126.out (fun _ hk => fpk hk)) hb)
           have n1_ := Aside0.mk (Kd.R_below (by (with_reducible repeat (first | apply Kd.R_alloc | apply Kd.R_drewN | apply Kd.R_drew)); first | exact HO136.out | exact Kd.R_mono HO136.out (fun _ hk => fpk hk)) hb)
           have n2_ := Aside0.mk (Kd.R_below (by (with_reducible repeat (first | apply Kd.R_alloc | apply Kd.R_drewN | apply Kd.R_drew)); first | exact HO139.out | exact Kd.R_mono HO139.out (fun _ hk => fpk hk)) hb)
           have n3_ := Aside0.mk (Kd.R_below (by (with_reducible repeat (first | apply Kd.R_alloc | apply Kd.R_drewN | apply Kd.R_drew)); first | exact HO143.out | exact Kd.R_mono HO143.out (fun _ hk => fpk hk)) hb)
           have n4_ := Aside0.mk (Kd.R_below (by (with_reducible repeat (first | apply Kd.R_alloc | apply Kd.R_drewN | apply Kd.R_drew)); first | exact HO154.out | exact Kd.R_mono HO154.out (fun _ hk => fpk hk)) hb)
           have n5_ := Aside0.mk (Kd.R_below (by (with_reducible repeat (first | apply Kd.R_alloc | apply Kd.R_drewN | apply Kd.R_drew)); first | exact HO157.out | exact Kd.R_mono HO157.out (fun _ hk => fpk hk)) hb)
           have n6_ := Aside0.mk (Kd.R_below (by (with_reducible repeat (first | apply Kd.R_alloc | apply Kd.R_drewN | apply Kd.R_drew)); first | exact HO161.out | exact Kd.R_mono HO161.out (fun _ hk => fpk hk)) hb)
           have n7_ := Aside0.mk (nb BK127.out hb)
           have n8_ := Aside0.mk (nb BK145.out hb)
           have n9_ := Aside0.mk (nb BK163.out hb)
           have n10_ := Aside0.mk (nb BK167.out hb)
           have n11_ := Aside0.mk (below_step bw hb)
           clear HO126
           clear HO136
           clear HO139
           clear HO143
           clear HO154
           clear HO157
           clear HO161
           clear BK127
           clear BK145
           clear BK163
           clear BK167
           clear HB
           have HO126 := n0_
           have HO136 := n1_
           have HO139 := n2_
           have HO143 := n3_
           have HO154 := n4_
           have HO157 := n5_
           have HO161 := n6_
           have BK127 := n7_
           have BK145 := n8_
           have BK163 := n9_
           have BK167 := n10_
           have HB := n11_
           clear n0_ n1_ n2_ n3_ n4_ n5_ n6_ n7_ n8_ n9_ n10_ n11_
           (try clear hb)
           (try clear hb2)
           (try clear hk)
           (try clear hi)
           refine hK.out _ _ ⟨(blk_cell BK163.out 0).trans rfl, (blk_cell BK163.out 1).trans rfl, (blk_cell BK167.out 0).trans rfl, (blk_cell BK167.out 1).trans rfl, (blk_cell BK127.out 0).trans rfl, (blk_cell BK127.out 1).trans rfl, HS6_, HS7_⟩ (fun hHeld => ?_)
           clear hK K
           refine norm_ (a' := ?_) ?_ ?_
           rotate_left
           ·show Act.put _ (some 74) _ = _
            simp only [Act.put, sl1, sl2, sl3, i64_w, i32_w]
            rfl
           refine pure_ (i := 37) (N := some 75) (v := ?_) (a' := ?_) #[true, true, true, true, true, true, true, true, true, true, true, true, true, true, true, true, true, true, true, true, true, true, true, true, true, true, true, true, true, true, true, true, true, true, true, true, true, true, false, false, false, false, false, false, false, false, false, false, false, false, false] rfl rfl (any_of HT_.out (by kernel_rfl)) (fun _ _ _ h => h) (Or.inl ⟨by rfl, ?_⟩) ?_ ?_
           rotate_left
           ·intro w'
            go_simp
            with_reducible rfl
           rotate_left
           ·simp only [Act.put, sl1, sl2, sl3, i64_w, i32_w]
            rfl
           refine pure_ (i := 38) (N := some 76) (v := ?_) (a' := ?_) #[true, true, true, true, true, true, true, true, true, true, true, true, true, true, true, true, true, true, true, true, true, true, true, true, true, true, true, true, true, true, true, true, true, true, true, true, true, true, true, false, false, false, false, false, false, false, false, false, false, false, false] rfl rfl (any_of HT_.out (by kernel_rfl)) (fun _ _ _ h => h) (Or.inl ⟨by rfl, ?_⟩) ?_ ?_
           rotate_left
           ·intro w'
            go_simp
            with_reducible rfl
           rotate_left
           ·simp only [Act.put, sl1, sl2, sl3, i64_w, i32_w]
            rfl
           refine pure_ (i := 39) (N := some 77) (v := ?_) (a' := ?_) #[true, true, true, true, true, true, true, true, true, true, true, true, true, true, true, true, true, true, true, true, true, true, true, true, true, true, true, true, true, true, true, true, true, true, true, true, true, true, true, true, false, false, false, false, false, false, false, false, false, false, false] rfl rfl (any_of HT_.out (by kernel_rfl)) (fun _ _ _ h => h) (Or.inl ⟨by rfl, ?_⟩) ?_ ?_
           rotate_left
           ·intro w'
            go_simp
            with_reducible rfl
           rotate_left
           ·simp only [Act.put, sl1, sl2, sl3, i64_w, i32_w]
            rfl
           refine take_ (i := 40) (N := some 78) (v := ?_) (a' := ?_) #[true, true, true, true, true, true, true, true, true, true, true, true, true, true, true, true, true, true, true, true, true, true, true, true, true, true, true, true, true, true, true, true, true, true, true, true, true, true, true, true, true, false, false, false, false, false, false, false, false, false, false] rfl rfl (take_ofW HT_.out HW_.out (by kernel_rfl)) (fun _ _ _ h => h) (Or.inl ⟨by rfl, ?_⟩) hHeld ?_ ?_
           rotate_left
           ·rintro w' ⟨s0, s1, s2, s3, s4, s5, s6, s7⟩
            go_simp
            with_reducible rfl
           rotate_left
           ·simp only [Act.put, sl1, sl2, sl3, i64_w, i32_w]
            rfl
           refine take_ (i := 41) (N := some 79) (v := ?_) (a' := ?_) #[true, true, true, true, true, true, true, true, true, true, true, true, true, true, true, true, true, true, true, true, true, true, true, true, true, true, true, true, true, true, true, true, true, true, true, true, true, true, true, true, true, true, false, false, false, false, false, false, false, false, false] rfl rfl (take_ofW HT_.out HW_.out (by kernel_rfl)) (fun _ _ _ h => h) (Or.inl ⟨by rfl, ?_⟩) hHeld ?_ ?_
           rotate_left
           ·rintro w' ⟨s0, s1, s2, s3, s4, s5, s6, s7⟩
            go_simp
            with_reducible rfl
           rotate_left
           ·simp only [Act.put, sl1, sl2, sl3, i64_w, i32_w]
            rfl
           refine one_ (i := 42) (N := some 80) #[true, true, true, true, true, true, true, true, true, true, true, true, true, true, true, true, true, true, true, true, true, true, true, true, true, true, true, true, true, true, true, true, true, true, true, true, true, true, true, true, true, true, true, false, false, false, false, false, false, false, false] rfl rfl (one_of HT_.out (by kernel_rfl)) (by decide) (fun K hK => ?_)
           refine goes_ Tryd.func15 (by kernel_rfl) rfl #[.agg #[.int .i64 1, .slice Ao34 y124.length co34], .agg #[.int .i64 t158, .slice (some ad168) t159.length co73]] (by rfl) rfl rfl am ?_
           with_reducible refine (view_Common.calls 1 _ _ y124 t158 _ _ t159 t174 _ ?side1 ?side2 ?side3 ?side4 A25.out).mono ?_
           (case side1 => repeat (first | exact (Kd.R_reads' HO126.out).2.2 | (with_reducible refine Kd.C_alloc ?_ _) | (with_reducible refine Kd.C_drewN ?_ _) | (with_reducible refine Kd.C_drew ?_)))
           (case side2 => exact (Kd.R_reads' HO126.out).2.1)
           (case side3 => repeat (first | exact (Kd.R_reads' HO161.out).2.2 | (with_reducible refine Kd.C_alloc ?_ _) | (with_reducible refine Kd.C_drewN ?_ _) | (with_reducible refine Kd.C_drew ?_)))
           (case side4 => exact (Kd.R_reads' HO161.out).2.1)
           rintro e w85 ⟨rfl, hb⟩
           have HS6_ := (hb.cell (World.block_lt_of_cell? _ _ (hHeld.2.2.2.2.2.2.1))).trans (hHeld.2.2.2.2.2.2.1)
           have HS7_ := (hb.cell (World.block_lt_of_cell? _ _ (hHeld.2.2.2.2.2.2.2))).trans (hHeld.2.2.2.2.2.2.2)
           refine ⟨_, rfl, ?_⟩
           have n0_ := Aside0.mk (Kd.R_below (by (with_reducible repeat (first | apply Kd.R_alloc | apply Kd.R_drewN | apply Kd.R_drew)); first | exact HO126.out | exact Kd.R_mono HO126.out (fun _ hk => fpk hk)) hb)
           have n1_ := Aside0.mk (Kd.R_below (by (with_reducible repeat (first | apply Kd.R_alloc | apply Kd.R_drewN | apply Kd.R_drew)); first | exact HO136.out | exact Kd.R_mono HO136.out (fun _ hk => fpk hk)) hb)
           have n2_ := Aside0.mk (Kd.R_below (by (with_reducible repeat (first | apply Kd.R_alloc | apply Kd.R_drewN | apply Kd.R_drew)); first | exact HO139.out | exact Kd.R_mono HO139.out (fun _ hk => fpk hk)) hb)
           have n3_ := Aside0.mk (Kd.R_below (by (with_reducible repeat (first | apply Kd.R_alloc | apply Kd.R_drewN | apply Kd.R_drew)); first | exact HO143.out | exact Kd.R_mono HO143.out (fun _ hk => fpk hk)) hb)
           have n4_ := Aside0.mk (Kd.R_below (by (with_reducible repeat (first | apply Kd.R_alloc | apply Kd.R_drewN | apply Kd.R_drew)); first | exact HO154.out | exact Kd.R_mono HO154.out (fun _ hk => fpk hk)) hb)
           have n5_ := Aside0.mk (Kd.R_below (by (with_reducible repeat (first | apply Kd.R_alloc | apply Kd.R_drewN | apply Kd.R_drew)); first | exact HO157.out | exact Kd.R_mono HO157.out (fun _ hk => fpk hk)) hb)
           have n6_ := Aside0.mk (Kd.R_below (by (with_reducible repeat (first | apply Kd.R_alloc | apply Kd.R_drewN | apply Kd.R_drew)); first | exact HO161.out | exact Kd.R_mono HO161.out (fun _ hk => fpk hk)) hb)
           have n7_ := Aside0.mk (nb BK127.out hb)
           have n8_ := Aside0.mk (nb BK145.out hb)
           have n9_ := Aside0.mk (nb BK163.out hb)
           have n10_ := Aside0.mk (nb BK167.out hb)
           have n11_ := Aside0.mk (below_step bw hb)
           clear HO126
           clear HO136
           clear HO139
           clear HO143
           clear HO154
           clear HO157
           clear HO161
           clear BK127
           clear BK145
           clear BK163
           clear BK167
           clear HB
           have HO126 := n0_
           have HO136 := n1_
           have HO139 := n2_
           have HO143 := n3_
           have HO154 := n4_
           have HO157 := n5_
           have HO161 := n6_
           have BK127 := n7_
           have BK145 := n8_
           have BK163 := n9_
           have BK167 := n10_
           have HB := n11_
           clear n0_ n1_ n2_ n3_ n4_ n5_ n6_ n7_ n8_ n9_ n10_ n11_
           (try clear hb)
           (try clear hb2)
           (try clear hk)
           (try clear hi)
           refine hK.out _ _ ⟨(blk_cell BK163.out 0).trans rfl, (blk_cell BK163.out 1).trans rfl, (blk_cell BK167.out 0).trans rfl, (blk_cell BK167.out 1).trans rfl, (blk_cell BK127.out 0).trans rfl, (blk_cell BK127.out 1).trans rfl, HS6_, HS7_⟩ (fun hHeld => ?_)
           clear hK K
           refine norm_ (a' := ?_) ?_ ?_
           rotate_left
           ·show Act.put _ (some 80) _ = _
            simp only [Act.put, sl1, sl2, sl3, i64_w, i32_w]
            rfl
           refine pure_ (i := 43) (N := some 81) (v := ?_) (a' := ?_) #[true, true, true, true, true, true, true, true, true, true, true, true, true, true, true, true, true, true, true, true, true, true, true, true, true, true, true, true, true, true, true, true, true, true, true, true, true, true, true, true, true, true, true, true, false, false, false, false, false, false, false] rfl rfl (any_of HT_.out (by kernel_rfl)) (fun _ _ _ h => h) (Or.inl ⟨by rfl, ?_⟩) ?_ ?_
           rotate_left
           ·intro w'
            go_simp
            with_reducible rfl
           rotate_left
           ·simp only [Act.put, sl1, sl2, sl3, i64_w, i32_w]
            rfl
           refine pure_ (i := 44) (N := some 82) (v := ?_) (a' := ?_) #[true, true, true, true, true, true, true, true, true, true, true, true, true, true, true, true, true, true, true, true, true, true, true, true, true, true, true, true, true, true, true, true, true, true, true, true, true, true, true, true, true, true, true, true, true, false, false, false, false, false, false] rfl rfl (any_of HT_.out (by kernel_rfl)) (fun _ _ _ h => h) (Or.inl ⟨by rfl, ?_⟩) ?_ ?_
           rotate_left
           ·intro w'
            go_simp
            with_reducible rfl
           rotate_left
           ·simp only [Act.put, sl1, sl2, sl3, i64_w, i32_w]
            rfl
           refine pure_ (i := 45) (N := some 83) (v := ?_) (a' := ?_) #[true, true, true, true, true, true, true, true, true, true, true, true, true, true, true, true, true, true, true, true, true, true, true, true, true, true, true, true, true, true, true, true, true, true, true, true, true, true, true, true, true, true, true, true, true, true, false, false, false, false, false] rfl rfl (any_of HT_.out (by kernel_rfl)) (fun _ _ _ h => h) (Or.inl ⟨by rfl, ?_⟩) ?_ ?_
           rotate_left
           ·intro w'
            go_simp
            with_reducible rfl
           rotate_left
           ·simp only [Act.put, sl1, sl2, sl3, i64_w, i32_w]
            rfl
           refine take_ (i := 46) (N := some 84) (v := ?_) (a' := ?_) #[true, true, true, true, true, true, true, true, true, true, true, true, true, true, true, true, true, true, true, true, true, true, true, true, true, true, true, true, true, true, true, true, true, true, true, true, true, true, true, true, true, true, true, true, true, true, true, false, false, false, false] rfl rfl (take_ofW HT_.out HW_.out (by kernel_rfl)) (fun _ _ _ h => h) (Or.inl ⟨by rfl, ?_⟩) hHeld ?_ ?_
           rotate_left
           ·rintro w' ⟨s0, s1, s2, s3, s4, s5, s6, s7⟩
            go_simp
            with_reducible rfl
           rotate_left
           ·simp only [Act.put, sl1, sl2, sl3, i64_w, i32_w]
            rfl
           refine one_ (i := 47) (N := some 85) #[true, true, true, true, true, true, true, true, true, true, true, true, true, true, true, true, true, true, true, true, true, true, true, true, true, true, true, true, true, true, true, true, true, true, true, true, true, true, true, true, true, true, true, true, true, true, true, true, false, false, false] rfl rfl (one_of HT_.out (by kernel_rfl)) (by decide) (fun K hK => ?_)
           refine goes_ Tryd.func11 (by kernel_rfl) rfl #[.int .i64 2, .int .i64 3] (by rfl) rfl rfl am ?_
           with_reducible refine (carillonlaw12_m.calls 2 3 t175 t176 _ A27.out).mono ?_
           rintro e w86 ⟨rfl, hb⟩
           have HS6_ := (hb.cell (World.block_lt_of_cell? _ _ (hHeld.2.2.2.2.2.2.1))).trans (hHeld.2.2.2.2.2.2.1)
           have HS7_ := (hb.cell (World.block_lt_of_cell? _ _ (hHeld.2.2.2.2.2.2.2))).trans (hHeld.2.2.2.2.2.2.2)
           refine ⟨_, rfl, ?_⟩
           have n0_ := Aside0.mk (Kd.R_below (by (with_reducible repeat (first | apply Kd.R_alloc | apply Kd.R_drewN | apply Kd.R_drew)); first | exact HO126.out | exact Kd.R_mono HO126.out (fun _ hk => fpk hk)) hb)
           have n1_ := Aside0.mk (Kd.R_below (by (with_reducible repeat (first | apply Kd.R_alloc | apply Kd.R_drewN | apply Kd.R_drew)); first | exact HO136.out | exact Kd.R_mono HO136.out (fun _ hk => fpk hk)) hb)
           have n2_ := Aside0.mk (Kd.R_below (by (with_reducible repeat (first | apply Kd.R_alloc | apply Kd.R_drewN | apply Kd.R_drew)); first | exact HO139.out | exact Kd.R_mono HO139.out (fun _ hk => fpk hk)) hb)
           have n3_ := Aside0.mk (Kd.R_below (by (with_reducible repeat (first | apply Kd.R_alloc | apply Kd.R_drewN | apply Kd.R_drew)); first | exact HO143.out | exact Kd.R_mono HO143.out (fun _ hk => fpk hk)) hb)
           have n4_ := Aside0.mk (Kd.R_below (by (with_reducible repeat (first | apply Kd.R_alloc | apply Kd.R_drewN | apply Kd.R_drew)); first | exact HO154.out | exact Kd.R_mono HO154.out (fun _ hk => fpk hk)) hb)
           have n5_ := Aside0.mk (Kd.R_below (by (with_reducible repeat (first | apply Kd.R_alloc | apply Kd.R_drewN | apply Kd.R_drew)); first | exact HO157.out | exact Kd.R_mono HO157.out (fun _ hk => fpk hk)) hb)
           have n6_ := Aside0.mk (Kd.R_below (by (with_reducible repeat (first | apply Kd.R_alloc | apply Kd.R_drewN | apply Kd.R_drew)); first | exact HO161.out | exact Kd.R_mono HO161.out (fun _ hk => fpk hk)) hb)
           have n7_ := Aside0.mk (nb BK127.out hb)
           have n8_ := Aside0.mk (nb BK145.out hb)
           have n9_ := Aside0.mk (nb BK163.out hb)
           have n10_ := Aside0.mk (nb BK167.out hb)
           have n11_ := Aside0.mk (below_step bw hb)
           clear HO126
           clear HO136
           clear HO139
           clear HO143
           clear HO154
           clear HO157
           clear HO161
           clear BK127
           clear BK145
           clear BK163
           clear BK167
           clear HB
           have HO126 := n0_
           have HO136 := n1_
           have HO139 := n2_
           have HO143 := n3_
           have HO154 := n4_
           have HO157 := n5_
           have HO161 := n6_
           have BK127 := n7_
           have BK145 := n8_
           have BK163 := n9_
           have BK167 := n10_
           have HB := n11_
           clear n0_ n1_ n2_ n3_ n4_ n5_ n6_ n7_ n8_ n9_ n10_ n11_
           (try clear hb)
           (try clear hb2)
           (try clear hk)
           (try clear hi)
           refine hK.out _ _ ⟨(blk_cell BK163.out 0).trans rfl, (blk_cell BK163.out 1).trans rfl, (blk_cell BK167.out 0).trans rfl, (blk_cell BK167.out 1).trans rfl, (blk_cell BK127.out 0).trans rfl, (blk_cell BK127.out 1).trans rfl, HS6_, HS7_⟩ (fun hHeld => ?_)
           clear hK K
           refine norm_ (a' := ?_) ?_ ?_
           rotate_left
           ·show Act.put _ (some 85) _ = _
            simp only [Act.put, sl1, sl2, sl3, i64_w, i32_w]
            rfl
           refine one_ (i := 48) (N := some 86) #[true, true, true, true, true, true, true, true, true, true, true, true, true, true, true, true, true, true, true, true, true, true, true, true, true, true, true, true, true, true, true, true, true, true, true, true, true, true, true, true, true, true, true, true, true, true, true, true, true, false, false] rfl rfl (one_of HT_.out (by kernel_rfl)) (by decide) (fun K hK => ?_)
           refine goes_ Tryd.func16 (by kernel_rfl) rfl #[.agg #[.int .i64 t158, .slice (some ad168) t159.length co73], .agg #[.int .i64 t175, .int .i64 t176]] (by rfl) rfl rfl am ?_
           with_reducible refine (view_Has.calls k t158 _ _ t159 t175 t176 t177 _ ?side1 ?side2 A28.out).mono ?_
           (case side1 => repeat (first | exact (Kd.R_reads' HO161.out).2.2 | (with_reducible refine Kd.C_alloc ?_ _) | (with_reducible refine Kd.C_drewN ?_ _) | (with_reducible refine Kd.C_drew ?_)))
           (case side2 => exact (Kd.R_reads' HO161.out).2.1)
           rintro e w87 ⟨rfl, hb⟩
           have HS6_ := (hb.cell (World.block_lt_of_cell? _ _ (hHeld.2.2.2.2.2.2.1))).trans (hHeld.2.2.2.2.2.2.1)
           have HS7_ := (hb.cell (World.block_lt_of_cell? _ _ (hHeld.2.2.2.2.2.2.2))).trans (hHeld.2.2.2.2.2.2.2)
           refine ⟨_, rfl, ?_⟩
           have n0_ := Aside0.mk (Kd.R_below (by (with_reducible repeat (first | apply Kd.R_alloc | apply Kd.R_drewN | apply Kd.R_drew)); first | exact HO126.out | exact Kd.R_mono HO126.out (fun _ hk => fpk hk)) hb)
           have n1_ := Aside0.mk (Kd.R_below (by (with_reducible repeat (first | apply Kd.R_alloc | apply Kd.R_drewN | apply Kd.R_drew)); first | exact HO136.out | exact Kd.R_mono HO136.out (fun _ hk => fpk hk)) hb)
           have n2_ := Aside0.mk (Kd.R_below (by (with_reducible repeat (first | apply Kd.R_alloc | apply Kd.R_drewN | apply Kd.R_drew)); first | exact HO139.out | exact Kd.R_mono HO139.out (fun _ hk => fpk hk)) hb)
           have n3_ := Aside0.mk (Kd.R_below (by (with_reducible repeat (first | apply Kd.R_alloc | apply Kd.R_drewN | apply Kd.R_drew)); first | exact HO143.out | exact Kd.R_mono HO143.out (fun _ hk => fpk hk)) hb)
           have n4_ := Aside0.mk (Kd.R_below (by (with_reducible repeat (first | apply Kd.R_alloc | apply Kd.R_drewN | apply Kd.R_drew)); first | exact HO154.out | exact Kd.R_mono HO154.out (fun _ hk => fpk hk)) hb)
           have n5_ := Aside0.mk (Kd.R_below (by (with_reducible repeat (first | apply Kd.R_alloc | apply Kd.R_drewN | apply Kd.R_drew)); first | exact HO157.out | exact Kd.R_mono HO157.out (fun _ hk => fpk hk)) hb)
           have n6_ := Aside0.mk (Kd.R_below (by (with_reducible repeat (first | apply Kd.R_alloc | apply Kd.R_drewN | apply Kd.R_drew)); first | exact HO161.out | exact Kd.R_mono HO161.out (fun _ hk => fpk hk)) hb)
           have n7_ := Aside0.mk (nb BK127.out hb)
           have n8_ := Aside0.mk (nb BK145.out hb)
           have n9_ := Aside0.mk (nb BK163.out hb)
           have n10_ := Aside0.mk (nb BK167.out hb)
           have n11_ := Aside0.mk (below_step bw hb)
           clear HO126
           clear HO136
           clear HO139
           clear HO143
           clear HO154
           clear HO157
           clear HO161
           clear BK127
           clear BK145
           clear BK163
           clear BK167
           clear HB
           have HO126 := n0_
           have HO136 := n1_
           have HO139 := n2_
           have HO143 := n3_
           have HO154 := n4_
           have HO157 := n5_
           have HO161 := n6_
           have BK127 := n7_
           have BK145 := n8_
           have BK163 := n9_
           have BK167 := n10_
           have HB := n11_
           clear n0_ n1_ n2_ n3_ n4_ n5_ n6_ n7_ n8_ n9_ n10_ n11_
           (try clear hb)
           (try clear hb2)
           (try clear hk)
           (try clear hi)
           refine hK.out _ _ ⟨(blk_cell BK163.out 0).trans rfl, (blk_cell BK163.out 1).trans rfl, (blk_cell BK167.out 0).trans rfl, (blk_cell BK167.out 1).trans rfl, (blk_cell BK127.out 0).trans rfl, (blk_cell BK127.out 1).trans rfl, HS6_, HS7_⟩ (fun hHeld => ?_)
           clear hK K
           refine norm_ (a' := ?_) ?_ ?_
           rotate_left
           ·show Act.put _ (some 86) _ = _
            simp only [Act.put, sl1, sl2, sl3, i64_w, i32_w]
            rfl
           refine pure_ (i := 49) (N := some 87) (v := ?_) (a' := ?_) #[true, true, true, true, true, true, true, true, true, true, true, true, true, true, true, true, true, true, true, true, true, true, true, true, true, true, true, true, true, true, true, true, true, true, true, true, true, true, true, true, true, true, true, true, true, true, true, true, true, true, false] rfl rfl (any_of HT_.out (by kernel_rfl)) (fun _ _ _ h => h) (Or.inl ⟨by rfl, ?_⟩) ?_ ?_
           rotate_left
           ·intro w'
            go_simp
            with_reducible rfl
           rotate_left
           ·simp only [Act.put, sl1, sl2, sl3, i64_w, i32_w]
            rfl
           refine pure_ (i := 50) (N := some 0) (v := ?_) (a' := ?_) #[true, true, true, true, true, true, true, true, true, true, true, true, true, true, true, true, true, true, true, true, true, true, true, true, true, true, true, true, true, true, true, true, true, true, true, true, true, true, true, true, true, true, true, true, true, true, true, true, true, true, true] rfl rfl (any_of HT_.out (by kernel_rfl)) (fun _ _ _ h => h) (Or.inl ⟨by rfl, ?_⟩) ?_ ?_
           rotate_left
           ·intro w'
            go_simp
            with_reducible rfl
           rotate_left
           ·simp only [Act.put, sl1, sl2, sl3, i64_w, i32_w]
            rfl
           refine done_ (done_of HT_.out (by kernel_rfl)) ?_
           try go_wp2
           go_ret
           exact ⟨er, bw⟩
          ·rw [if_neg c26] at H
           have c26b0 : (t174 == 2) = false := beq_eq_false_iff_ne.mpr c26
           have c26b1 : (t174 != 2) = true := bne_iff_ne.mpr c26
           exact absurd ((Option.some.inj H).trans hr_.out) (by decide)
         ·rw [if_neg c24] at H
          have c24b0 : (t173 == 2) = false := beq_eq_false_iff_ne.mpr c24
          have c24b1 : (t173 != 2) = true := bne_iff_ne.mpr c24
          exact absurd ((Option.some.inj H).trans hr_.out) (by decide)
        ·rw [if_neg c22] at H
         have c22b0 : (t166 == 0) = false := beq_eq_false_iff_ne.mpr c22
         have c22b1 : (t166 != 0) = true := bne_iff_ne.mpr c22
         exact absurd ((Option.some.inj H).trans hr_.out) (by decide)
       ·rw [if_neg c21] at H
        have c21b0 : (t164 == t171 && (t165 == t172)) = false := by simpa using c21
        (try (have c21b1 : decide (t164 = t171 && (t165 == t172)) = false := by simpa using c21))
        (try (have c21b2 : (t164 == t171 && (t165 == t172)) = false := by simpa using c21))
        (try (have c21b3 : ¬ (t164 = t171 && (t165 == t172)) := by simpa using c21))
        (try (have c21b4 : (!(t164 == t171) || (!(t165 == t172))) = true := by have e_ : (!(t164 == t171) || (!(t165 == t172))) = (!(t164 == t171 && (t165 == t172))) := (by simp only [Bool.not_or, Bool.not_and, Bool.not_not]); rw [e_]; first | (simp only [c21, Bool.not_true]; done) | (simp only [Bool.eq_false_iff.mpr c21, Bool.not_false]; done)))
        clear c21
        exact absurd ((Option.some.inj H).trans hr_.out) (by decide)
      ·rw [if_neg c19] at H
       have c19b0 : (((rd_T38 t159 2).f0) == t169 && (((rd_T38 t159 2).f1) == t170)) = false := by simpa using c19
       (try (have c19b1 : decide (((rd_T38 t159 2).f0) = t169 && (((rd_T38 t159 2).f1) == t170)) = false := by simpa using c19))
       (try (have c19b2 : (((rd_T38 t159 2).f0) == t169 && (((rd_T38 t159 2).f1) == t170)) = false := by simpa using c19))
       (try (have c19b3 : ¬ (((rd_T38 t159 2).f0) = t169 && (((rd_T38 t159 2).f1) == t170)) := by simpa using c19))
       (try (have c19b4 : (!(((rd_T38 t159 2).f0) == t169) || (!(((rd_T38 t159 2).f1) == t170))) = true := by have e_ : (!(((rd_T38 t159 2).f0) == t169) || (!(((rd_T38 t159 2).f1) == t170))) = (!(((rd_T38 t159 2).f0) == t169 && (((rd_T38 t159 2).f1) == t170))) := (by simp only [Bool.not_or, Bool.not_and, Bool.not_not]); rw [e_]; first | (simp only [c19, Bool.not_true]; done) | (simp only [Bool.eq_false_iff.mpr c19, Bool.not_false]; done)))
       clear c19
       exact absurd ((Option.some.inj H).trans hr_.out) (by decide)
     ·rw [if_neg c17] at H
      exact absurd H (by simp)
    ·rw [if_neg c16] at H
     have c16b0 : ((t159.length : Int) == 3) = false := beq_eq_false_iff_ne.mpr c16
     have c16b1 : ((t159.length : Int) != 3) = true := bne_iff_ne.mpr c16
     exact absurd ((Option.some.inj H).trans hr_.out) (by decide)
   ·rw [if_neg c15] at H
    have c15b0 : (t158 == 2) = false := beq_eq_false_iff_ne.mpr c15
    have c15b1 : (t158 != 2) = true := bne_iff_ne.mpr c15
    exact absurd ((Option.some.inj H).trans hr_.out) (by decide)
  ·rw [if_neg c14] at H
   have c14b0 : (t162 == 0) = false := beq_eq_false_iff_ne.mpr c14
   have c14b1 : (t162 != 0) = true := bne_iff_ne.mpr c14
   exact absurd ((Option.some.inj H).trans hr_.out) (by decide)
 ·rw [if_neg c13] at H
  have c13b0 : (t144 == 12) = false := beq_eq_false_iff_ne.mpr c13
  have c13b1 : (t144 != 12) = true := bne_iff_ne.mpr c13
  exact absurd ((Option.some.inj H).trans hr_.out) (by decide)
theorem carillonlaw12_examples.g_true : carillonlaw12_examples.g 300 = some true := by kernel_rfl
def carillonlaw12_examples.f : Option (Bool) := some true
theorem carillonlaw12_examples.calls (r : Bool) (w : World) (h : carillonlaw12_examples.f = some r) :
  Calls Tryd.prog 5 #[] w fun e w' => e = .returned (.bool r) ∧ Below w.heap.size w w' := by
 obtain rfl := Option.some.inj h
 exact carillonlaw12_examples.calls0 _ true w ⟨rfl⟩ carillonlaw12_examples.g_true

end Go.Proofs.YtbcpjegakjcmgaaDoor.P
