-- Printed by this session's program wip/xp.py (a turned copy of the kit's printer): functions, their contracts.
import Derived.Test.YtokebimfflobbaaDoorPx0
import Derived.Test.YtokebimfflobbaaDoorPx2
import Derived.Test.YtokebimfflobbaaDoorPx4
import Derived.Test.YtokebimfflobbaaDoorPx7
namespace Go.Proofs.YtokebimfflobbaaDoor.P
open Go.RowKit Go.Proofs.YtokebimfflobbaaDoorW.PrintWords Go.Proofs.YtokebimfflobbaaDoorW.PrintLast Go.Proofs.YtokebimfflobbaaDoorW.PrintMore
attribute [local go_sem] max2_int min2_int max_two min_two max_three min_three max_four min_four   -- for this text's walks alone
set_option linter.unusedVariables false
set_option linter.unusedSimpArgs false

/-! ### carillonlaw19_examples: function 8 -/
def carillonlaw19_examples.g (k : Nat)  : Option (Bool) := (flush_Longest.f k (([(([(⟨#[97]⟩ : ByteArray)] : List ByteArray)), (([(⟨#[97]⟩ : ByteArray), (⟨#[98]⟩ : ByteArray)] : List ByteArray)), []] : List (List ByteArray)))).bind fun bt243 => ((flush_Longest.f k (([(([(⟨#[97]⟩ : ByteArray), (⟨#[98]⟩ : ByteArray)] : List ByteArray)), (([(⟨#[97]⟩ : ByteArray), (⟨#[99]⟩ : ByteArray)] : List ByteArray))] : List (List ByteArray)))).bind fun bt256 => ((flush_Encode.f k 2 (([(⟨0, 1⟩ : S47)] : List (S47))) (([(⟨#[120]⟩ : ByteArray)] : List ByteArray))).bind fun bt267 => ((flush_Decode.f k bt267.1).bind fun bt269 => (if (bt243.1.length : Int) = 2 then (if bt243.2 = 0 then (if bt256.2 = 11 then (if bt267.2 = 0 then (if bt269.1 = 2 then (if (bt269.2.1.length : Int) = 1 then (if (bt269.2.2.1.length : Int) = 1 then (if 0 < (bt269.2.2.1.length : Int) then (if (rdOf ByteArray.empty bt269.2.2.1 0).toList = ([120] : List UInt8) then (if bt269.2.2.2 = 0 then ((flush_Common.f k (([(⟨#[97]⟩ : ByteArray), (⟨#[98]⟩ : ByteArray), (⟨#[99]⟩ : ByteArray)] : List ByteArray)) (([(⟨#[97]⟩ : ByteArray), (⟨#[98]⟩ : ByteArray), (⟨#[120]⟩ : ByteArray)] : List ByteArray))).bind fun t285 => (if t285 = 2 then ((flush_Prefix.f k ([] : List ByteArray) ([] : List ByteArray)).bind fun t286 => (some t286)) else (some false))) else (some false)) else (some false)) else (none)) else (some false)) else (some false)) else (some false)) else (some false)) else (some false)) else (some false)) else (some false)))))
theorem carillonlaw19_examples.mono : ∀ k, LeO (carillonlaw19_examples.g k ) (carillonlaw19_examples.g (k + 1) ) := by
 intro  k
 unfold carillonlaw19_examples.g
 repeat' first
   | (with_reducible exact flush_Common.mono _ _ _)
   | (with_reducible exact flush_Decode.mono _ _)
   | (with_reducible exact flush_Encode.mono _ _ _ _)
   | (with_reducible exact flush_Longest.mono _ _)
   | (with_reducible exact flush_Prefix.mono _ _ _)
   | (with_reducible exact LeO.refl _)
   | (with_reducible exact LeO.none _)
   | (with_reducible refine LeO.ite ?_ ?_)
   | (with_reducible refine LeO.bind ?_ (fun _ => ?_))
   | exact flush_Common.mono _ _ _
   | exact flush_Decode.mono _ _
   | exact flush_Encode.mono _ _ _ _
   | exact flush_Longest.mono _ _
   | exact flush_Prefix.mono _ _ _
   | exact LeO.none _
   | refine LeO.ite ?_ ?_
   | refine LeO.bind ?_ (fun _ => ?_)
set_option maxHeartbeats 8000000 in
set_option maxRecDepth 100000 in
theorem carillonlaw19_examples.calls0 (k : Nat)  (r : Bool) (w : World) (hr_ : Aside0 (r = true)) (HT_ : TabOk w) (h : carillonlaw19_examples.g k  = some r) :
  Calls Tryd.prog 8 #[] w fun e w' => e = .returned (.bool r) ∧ Below w.heap.size w w' := by
 have HT := Aside0.mk HT_
 clear HT_
 have hu47 := Tryd.underlying47
 have hu35 := Tryd.underlying35
 have HB := Aside0.mk (Below.refl w.heap.size w)
 have H : ((flush_Longest.f k (([(([(⟨#[97]⟩ : ByteArray)] : List ByteArray)), (([(⟨#[97]⟩ : ByteArray), (⟨#[98]⟩ : ByteArray)] : List ByteArray)), []] : List (List ByteArray)))).bind fun bt243 => ((flush_Longest.f k (([(([(⟨#[97]⟩ : ByteArray), (⟨#[98]⟩ : ByteArray)] : List ByteArray)), (([(⟨#[97]⟩ : ByteArray), (⟨#[99]⟩ : ByteArray)] : List ByteArray))] : List (List ByteArray)))).bind fun bt256 => ((flush_Encode.f k 2 (([(⟨0, 1⟩ : S47)] : List (S47))) (([(⟨#[120]⟩ : ByteArray)] : List ByteArray))).bind fun bt267 => ((flush_Decode.f k bt267.1).bind fun bt269 => (if (bt243.1.length : Int) = 2 then (if bt243.2 = 0 then (if bt256.2 = 11 then (if bt267.2 = 0 then (if bt269.1 = 2 then (if (bt269.2.1.length : Int) = 1 then (if (bt269.2.2.1.length : Int) = 1 then (if 0 < (bt269.2.2.1.length : Int) then (if (rdOf ByteArray.empty bt269.2.2.1 0).toList = ([120] : List UInt8) then (if bt269.2.2.2 = 0 then ((flush_Common.f k (([(⟨#[97]⟩ : ByteArray), (⟨#[98]⟩ : ByteArray), (⟨#[99]⟩ : ByteArray)] : List ByteArray)) (([(⟨#[97]⟩ : ByteArray), (⟨#[98]⟩ : ByteArray), (⟨#[120]⟩ : ByteArray)] : List ByteArray))).bind fun t285 => (if t285 = 2 then ((flush_Prefix.f k ([] : List ByteArray) ([] : List ByteArray)).bind fun t286 => (some t286)) else (some false))) else (some false)) else (some false)) else (none)) else (some false)) else (some false)) else (some false)) else (some false)) else (some false)) else (some false)) else (some false)))))) = some r := h
 clear h
 obtain ⟨y234, hy234⟩ : ∃ y_ : List ByteArray, y_ = (([(⟨#[97]⟩ : ByteArray)] : List ByteArray)) := ⟨_, rfl⟩
 replace H : ((flush_Longest.f k (([y234, (([(⟨#[97]⟩ : ByteArray), (⟨#[98]⟩ : ByteArray)] : List ByteArray)), []] : List (List ByteArray)))).bind fun bt243 => ((flush_Longest.f k (([(([(⟨#[97]⟩ : ByteArray), (⟨#[98]⟩ : ByteArray)] : List ByteArray)), (([(⟨#[97]⟩ : ByteArray), (⟨#[99]⟩ : ByteArray)] : List ByteArray))] : List (List ByteArray)))).bind fun bt256 => ((flush_Encode.f k 2 (([(⟨0, 1⟩ : S47)] : List (S47))) (([(⟨#[120]⟩ : ByteArray)] : List ByteArray))).bind fun bt267 => ((flush_Decode.f k bt267.1).bind fun bt269 => (if (bt243.1.length : Int) = 2 then (if bt243.2 = 0 then (if bt256.2 = 11 then (if bt267.2 = 0 then (if bt269.1 = 2 then (if (bt269.2.1.length : Int) = 1 then (if (bt269.2.2.1.length : Int) = 1 then (if 0 < (bt269.2.2.1.length : Int) then (if (rdOf ByteArray.empty bt269.2.2.1 0).toList = ([120] : List UInt8) then (if bt269.2.2.2 = 0 then ((flush_Common.f k (([(⟨#[97]⟩ : ByteArray), (⟨#[98]⟩ : ByteArray), (⟨#[99]⟩ : ByteArray)] : List ByteArray)) (([(⟨#[97]⟩ : ByteArray), (⟨#[98]⟩ : ByteArray), (⟨#[120]⟩ : ByteArray)] : List ByteArray))).bind fun t285 => (if t285 = 2 then ((flush_Prefix.f k ([] : List ByteArray) ([] : List ByteArray)).bind fun t286 => (some t286)) else (some false))) else (some false)) else (some false)) else (none)) else (some false)) else (some false)) else (some false)) else (some false)) else (some false)) else (some false)) else (some false)))))) = some r := by first | (rw [hy234]; with_reducible exact H) | (have H2_ := (Option.bind_some _ _).symm.trans H; rw [hy234]; with_reducible exact H2_) | (have H2_ := (Option.bind_some _ _).symm.trans H; with_reducible exact H2_) | with_reducible exact H | (rw [hy234]; exact H) | exact H
 have Ny234 := Aside0.mk hy234
 clear hy234
 obtain ⟨y237, hy237⟩ : ∃ y_ : List ByteArray, y_ = (([(⟨#[97]⟩ : ByteArray), (⟨#[98]⟩ : ByteArray)] : List ByteArray)) := ⟨_, rfl⟩
 replace H : ((flush_Longest.f k (([y234, y237, []] : List (List ByteArray)))).bind fun bt243 => ((flush_Longest.f k (([(([(⟨#[97]⟩ : ByteArray), (⟨#[98]⟩ : ByteArray)] : List ByteArray)), (([(⟨#[97]⟩ : ByteArray), (⟨#[99]⟩ : ByteArray)] : List ByteArray))] : List (List ByteArray)))).bind fun bt256 => ((flush_Encode.f k 2 (([(⟨0, 1⟩ : S47)] : List (S47))) (([(⟨#[120]⟩ : ByteArray)] : List ByteArray))).bind fun bt267 => ((flush_Decode.f k bt267.1).bind fun bt269 => (if (bt243.1.length : Int) = 2 then (if bt243.2 = 0 then (if bt256.2 = 11 then (if bt267.2 = 0 then (if bt269.1 = 2 then (if (bt269.2.1.length : Int) = 1 then (if (bt269.2.2.1.length : Int) = 1 then (if 0 < (bt269.2.2.1.length : Int) then (if (rdOf ByteArray.empty bt269.2.2.1 0).toList = ([120] : List UInt8) then (if bt269.2.2.2 = 0 then ((flush_Common.f k (([(⟨#[97]⟩ : ByteArray), (⟨#[98]⟩ : ByteArray), (⟨#[99]⟩ : ByteArray)] : List ByteArray)) (([(⟨#[97]⟩ : ByteArray), (⟨#[98]⟩ : ByteArray), (⟨#[120]⟩ : ByteArray)] : List ByteArray))).bind fun t285 => (if t285 = 2 then ((flush_Prefix.f k ([] : List ByteArray) ([] : List ByteArray)).bind fun t286 => (some t286)) else (some false))) else (some false)) else (some false)) else (none)) else (some false)) else (some false)) else (some false)) else (some false)) else (some false)) else (some false)) else (some false)))))) = some r := by first | (rw [hy237]; with_reducible exact H) | (have H2_ := (Option.bind_some _ _).symm.trans H; rw [hy237]; with_reducible exact H2_) | (have H2_ := (Option.bind_some _ _).symm.trans H; with_reducible exact H2_) | with_reducible exact H | (rw [hy237]; exact H) | exact H
 have Ny237 := Aside0.mk hy237
 clear hy237
 obtain ⟨y240, hy240⟩ : ∃ y_ : List (List ByteArray), y_ = (([y234, y237, []] : List (List ByteArray))) := ⟨_, rfl⟩
 replace H : ((flush_Longest.f k y240).bind fun bt243 => ((flush_Longest.f k (([(([(⟨#[97]⟩ : ByteArray), (⟨#[98]⟩ : ByteArray)] : List ByteArray)), (([(⟨#[97]⟩ : ByteArray), (⟨#[99]⟩ : ByteArray)] : List ByteArray))] : List (List ByteArray)))).bind fun bt256 => ((flush_Encode.f k 2 (([(⟨0, 1⟩ : S47)] : List (S47))) (([(⟨#[120]⟩ : ByteArray)] : List ByteArray))).bind fun bt267 => ((flush_Decode.f k bt267.1).bind fun bt269 => (if (bt243.1.length : Int) = 2 then (if bt243.2 = 0 then (if bt256.2 = 11 then (if bt267.2 = 0 then (if bt269.1 = 2 then (if (bt269.2.1.length : Int) = 1 then (if (bt269.2.2.1.length : Int) = 1 then (if 0 < (bt269.2.2.1.length : Int) then (if (rdOf ByteArray.empty bt269.2.2.1 0).toList = ([120] : List UInt8) then (if bt269.2.2.2 = 0 then ((flush_Common.f k (([(⟨#[97]⟩ : ByteArray), (⟨#[98]⟩ : ByteArray), (⟨#[99]⟩ : ByteArray)] : List ByteArray)) (([(⟨#[97]⟩ : ByteArray), (⟨#[98]⟩ : ByteArray), (⟨#[120]⟩ : ByteArray)] : List ByteArray))).bind fun t285 => (if t285 = 2 then ((flush_Prefix.f k ([] : List ByteArray) ([] : List ByteArray)).bind fun t286 => (some t286)) else (some false))) else (some false)) else (some false)) else (none)) else (some false)) else (some false)) else (some false)) else (some false)) else (some false)) else (some false)) else (some false)))))) = some r := by first | (rw [hy240]; with_reducible exact H) | (have H2_ := (Option.bind_some _ _).symm.trans H; rw [hy240]; with_reducible exact H2_) | (have H2_ := (Option.bind_some _ _).symm.trans H; with_reducible exact H2_) | with_reducible exact H | (rw [hy240]; exact H) | exact H
 have Ny240 := Aside0.mk hy240
 clear hy240
 replace H := Option.bind_eq_some_iff.mp H
 obtain ⟨⟨t243, t246⟩, A10, H⟩ := H
 replace H : ((flush_Longest.f k (([(([(⟨#[97]⟩ : ByteArray), (⟨#[98]⟩ : ByteArray)] : List ByteArray)), (([(⟨#[97]⟩ : ByteArray), (⟨#[99]⟩ : ByteArray)] : List ByteArray))] : List (List ByteArray)))).bind fun bt256 => ((flush_Encode.f k 2 (([(⟨0, 1⟩ : S47)] : List (S47))) (([(⟨#[120]⟩ : ByteArray)] : List ByteArray))).bind fun bt267 => ((flush_Decode.f k bt267.1).bind fun bt269 => (if (t243.length : Int) = 2 then (if t246 = 0 then (if bt256.2 = 11 then (if bt267.2 = 0 then (if bt269.1 = 2 then (if (bt269.2.1.length : Int) = 1 then (if (bt269.2.2.1.length : Int) = 1 then (if 0 < (bt269.2.2.1.length : Int) then (if (rdOf ByteArray.empty bt269.2.2.1 0).toList = ([120] : List UInt8) then (if bt269.2.2.2 = 0 then ((flush_Common.f k (([(⟨#[97]⟩ : ByteArray), (⟨#[98]⟩ : ByteArray), (⟨#[99]⟩ : ByteArray)] : List ByteArray)) (([(⟨#[97]⟩ : ByteArray), (⟨#[98]⟩ : ByteArray), (⟨#[120]⟩ : ByteArray)] : List ByteArray))).bind fun t285 => (if t285 = 2 then ((flush_Prefix.f k ([] : List ByteArray) ([] : List ByteArray)).bind fun t286 => (some t286)) else (some false))) else (some false)) else (some false)) else (none)) else (some false)) else (some false)) else (some false)) else (some false)) else (some false)) else (some false)) else (some false))))) = some r := H
 have A1 := Aside0.mk A10
 clear A10
 obtain ⟨y247, hy247⟩ : ∃ y_ : List ByteArray, y_ = (([(⟨#[97]⟩ : ByteArray), (⟨#[98]⟩ : ByteArray)] : List ByteArray)) := ⟨_, rfl⟩
 replace H : ((flush_Longest.f k (([y247, (([(⟨#[97]⟩ : ByteArray), (⟨#[99]⟩ : ByteArray)] : List ByteArray))] : List (List ByteArray)))).bind fun bt256 => ((flush_Encode.f k 2 (([(⟨0, 1⟩ : S47)] : List (S47))) (([(⟨#[120]⟩ : ByteArray)] : List ByteArray))).bind fun bt267 => ((flush_Decode.f k bt267.1).bind fun bt269 => (if (t243.length : Int) = 2 then (if t246 = 0 then (if bt256.2 = 11 then (if bt267.2 = 0 then (if bt269.1 = 2 then (if (bt269.2.1.length : Int) = 1 then (if (bt269.2.2.1.length : Int) = 1 then (if 0 < (bt269.2.2.1.length : Int) then (if (rdOf ByteArray.empty bt269.2.2.1 0).toList = ([120] : List UInt8) then (if bt269.2.2.2 = 0 then ((flush_Common.f k (([(⟨#[97]⟩ : ByteArray), (⟨#[98]⟩ : ByteArray), (⟨#[99]⟩ : ByteArray)] : List ByteArray)) (([(⟨#[97]⟩ : ByteArray), (⟨#[98]⟩ : ByteArray), (⟨#[120]⟩ : ByteArray)] : List ByteArray))).bind fun t285 => (if t285 = 2 then ((flush_Prefix.f k ([] : List ByteArray) ([] : List ByteArray)).bind fun t286 => (some t286)) else (some false))) else (some false)) else (some false)) else (none)) else (some false)) else (some false)) else (some false)) else (some false)) else (some false)) else (some false)) else (some false))))) = some r := by first | (rw [hy247]; with_reducible exact H) | (have H2_ := (Option.bind_some _ _).symm.trans H; rw [hy247]; with_reducible exact H2_) | (have H2_ := (Option.bind_some _ _).symm.trans H; with_reducible exact H2_) | with_reducible exact H | (rw [hy247]; exact H) | exact H
 have Ny247 := Aside0.mk hy247
 clear hy247
 obtain ⟨y250, hy250⟩ : ∃ y_ : List ByteArray, y_ = (([(⟨#[97]⟩ : ByteArray), (⟨#[99]⟩ : ByteArray)] : List ByteArray)) := ⟨_, rfl⟩
 replace H : ((flush_Longest.f k (([y247, y250] : List (List ByteArray)))).bind fun bt256 => ((flush_Encode.f k 2 (([(⟨0, 1⟩ : S47)] : List (S47))) (([(⟨#[120]⟩ : ByteArray)] : List ByteArray))).bind fun bt267 => ((flush_Decode.f k bt267.1).bind fun bt269 => (if (t243.length : Int) = 2 then (if t246 = 0 then (if bt256.2 = 11 then (if bt267.2 = 0 then (if bt269.1 = 2 then (if (bt269.2.1.length : Int) = 1 then (if (bt269.2.2.1.length : Int) = 1 then (if 0 < (bt269.2.2.1.length : Int) then (if (rdOf ByteArray.empty bt269.2.2.1 0).toList = ([120] : List UInt8) then (if bt269.2.2.2 = 0 then ((flush_Common.f k (([(⟨#[97]⟩ : ByteArray), (⟨#[98]⟩ : ByteArray), (⟨#[99]⟩ : ByteArray)] : List ByteArray)) (([(⟨#[97]⟩ : ByteArray), (⟨#[98]⟩ : ByteArray), (⟨#[120]⟩ : ByteArray)] : List ByteArray))).bind fun t285 => (if t285 = 2 then ((flush_Prefix.f k ([] : List ByteArray) ([] : List ByteArray)).bind fun t286 => (some t286)) else (some false))) else (some false)) else (some false)) else (none)) else (some false)) else (some false)) else (some false)) else (some false)) else (some false)) else (some false)) else (some false))))) = some r := by first | (rw [hy250]; with_reducible exact H) | (have H2_ := (Option.bind_some _ _).symm.trans H; rw [hy250]; with_reducible exact H2_) | (have H2_ := (Option.bind_some _ _).symm.trans H; with_reducible exact H2_) | with_reducible exact H | (rw [hy250]; exact H) | exact H
 have Ny250 := Aside0.mk hy250
 clear hy250
 obtain ⟨y253, hy253⟩ : ∃ y_ : List (List ByteArray), y_ = (([y247, y250] : List (List ByteArray))) := ⟨_, rfl⟩
 replace H : ((flush_Longest.f k y253).bind fun bt256 => ((flush_Encode.f k 2 (([(⟨0, 1⟩ : S47)] : List (S47))) (([(⟨#[120]⟩ : ByteArray)] : List ByteArray))).bind fun bt267 => ((flush_Decode.f k bt267.1).bind fun bt269 => (if (t243.length : Int) = 2 then (if t246 = 0 then (if bt256.2 = 11 then (if bt267.2 = 0 then (if bt269.1 = 2 then (if (bt269.2.1.length : Int) = 1 then (if (bt269.2.2.1.length : Int) = 1 then (if 0 < (bt269.2.2.1.length : Int) then (if (rdOf ByteArray.empty bt269.2.2.1 0).toList = ([120] : List UInt8) then (if bt269.2.2.2 = 0 then ((flush_Common.f k (([(⟨#[97]⟩ : ByteArray), (⟨#[98]⟩ : ByteArray), (⟨#[99]⟩ : ByteArray)] : List ByteArray)) (([(⟨#[97]⟩ : ByteArray), (⟨#[98]⟩ : ByteArray), (⟨#[120]⟩ : ByteArray)] : List ByteArray))).bind fun t285 => (if t285 = 2 then ((flush_Prefix.f k ([] : List ByteArray) ([] : List ByteArray)).bind fun t286 => (some t286)) else (some false))) else (some false)) else (some false)) else (none)) else (some false)) else (some false)) else (some false)) else (some false)) else (some false)) else (some false)) else (some false))))) = some r := by first | (rw [hy253]; with_reducible exact H) | (have H2_ := (Option.bind_some _ _).symm.trans H; rw [hy253]; with_reducible exact H2_) | (have H2_ := (Option.bind_some _ _).symm.trans H; with_reducible exact H2_) | with_reducible exact H | (rw [hy253]; exact H) | exact H
 have Ny253 := Aside0.mk hy253
 clear hy253
 replace H := Option.bind_eq_some_iff.mp H
 obtain ⟨⟨t256, t259⟩, A20, H⟩ := H
 replace H : ((flush_Encode.f k 2 (([(⟨0, 1⟩ : S47)] : List (S47))) (([(⟨#[120]⟩ : ByteArray)] : List ByteArray))).bind fun bt267 => ((flush_Decode.f k bt267.1).bind fun bt269 => (if (t243.length : Int) = 2 then (if t246 = 0 then (if t259 = 11 then (if bt267.2 = 0 then (if bt269.1 = 2 then (if (bt269.2.1.length : Int) = 1 then (if (bt269.2.2.1.length : Int) = 1 then (if 0 < (bt269.2.2.1.length : Int) then (if (rdOf ByteArray.empty bt269.2.2.1 0).toList = ([120] : List UInt8) then (if bt269.2.2.2 = 0 then ((flush_Common.f k (([(⟨#[97]⟩ : ByteArray), (⟨#[98]⟩ : ByteArray), (⟨#[99]⟩ : ByteArray)] : List ByteArray)) (([(⟨#[97]⟩ : ByteArray), (⟨#[98]⟩ : ByteArray), (⟨#[120]⟩ : ByteArray)] : List ByteArray))).bind fun t285 => (if t285 = 2 then ((flush_Prefix.f k ([] : List ByteArray) ([] : List ByteArray)).bind fun t286 => (some t286)) else (some false))) else (some false)) else (some false)) else (none)) else (some false)) else (some false)) else (some false)) else (some false)) else (some false)) else (some false)) else (some false)))) = some r := H
 have A2 := Aside0.mk A20
 clear A20
 obtain ⟨y260, hy260⟩ : ∃ y_ : List (S47), y_ = (([(⟨0, 1⟩ : S47)] : List (S47))) := ⟨_, rfl⟩
 replace H : ((flush_Encode.f k 2 y260 (([(⟨#[120]⟩ : ByteArray)] : List ByteArray))).bind fun bt267 => ((flush_Decode.f k bt267.1).bind fun bt269 => (if (t243.length : Int) = 2 then (if t246 = 0 then (if t259 = 11 then (if bt267.2 = 0 then (if bt269.1 = 2 then (if (bt269.2.1.length : Int) = 1 then (if (bt269.2.2.1.length : Int) = 1 then (if 0 < (bt269.2.2.1.length : Int) then (if (rdOf ByteArray.empty bt269.2.2.1 0).toList = ([120] : List UInt8) then (if bt269.2.2.2 = 0 then ((flush_Common.f k (([(⟨#[97]⟩ : ByteArray), (⟨#[98]⟩ : ByteArray), (⟨#[99]⟩ : ByteArray)] : List ByteArray)) (([(⟨#[97]⟩ : ByteArray), (⟨#[98]⟩ : ByteArray), (⟨#[120]⟩ : ByteArray)] : List ByteArray))).bind fun t285 => (if t285 = 2 then ((flush_Prefix.f k ([] : List ByteArray) ([] : List ByteArray)).bind fun t286 => (some t286)) else (some false))) else (some false)) else (some false)) else (none)) else (some false)) else (some false)) else (some false)) else (some false)) else (some false)) else (some false)) else (some false)))) = some r := by first | (rw [hy260]; with_reducible exact H) | (have H2_ := (Option.bind_some _ _).symm.trans H; rw [hy260]; with_reducible exact H2_) | (have H2_ := (Option.bind_some _ _).symm.trans H; with_reducible exact H2_) | with_reducible exact H | (rw [hy260]; exact H) | exact H
 have Ny260 := Aside0.mk hy260
 clear hy260
 obtain ⟨y264, hy264⟩ : ∃ y_ : List ByteArray, y_ = (([(⟨#[120]⟩ : ByteArray)] : List ByteArray)) := ⟨_, rfl⟩
 replace H : ((flush_Encode.f k 2 y260 y264).bind fun bt267 => ((flush_Decode.f k bt267.1).bind fun bt269 => (if (t243.length : Int) = 2 then (if t246 = 0 then (if t259 = 11 then (if bt267.2 = 0 then (if bt269.1 = 2 then (if (bt269.2.1.length : Int) = 1 then (if (bt269.2.2.1.length : Int) = 1 then (if 0 < (bt269.2.2.1.length : Int) then (if (rdOf ByteArray.empty bt269.2.2.1 0).toList = ([120] : List UInt8) then (if bt269.2.2.2 = 0 then ((flush_Common.f k (([(⟨#[97]⟩ : ByteArray), (⟨#[98]⟩ : ByteArray), (⟨#[99]⟩ : ByteArray)] : List ByteArray)) (([(⟨#[97]⟩ : ByteArray), (⟨#[98]⟩ : ByteArray), (⟨#[120]⟩ : ByteArray)] : List ByteArray))).bind fun t285 => (if t285 = 2 then ((flush_Prefix.f k ([] : List ByteArray) ([] : List ByteArray)).bind fun t286 => (some t286)) else (some false))) else (some false)) else (some false)) else (none)) else (some false)) else (some false)) else (some false)) else (some false)) else (some false)) else (some false)) else (some false)))) = some r := by first | (rw [hy264]; with_reducible exact H) | (have H2_ := (Option.bind_some _ _).symm.trans H; rw [hy264]; with_reducible exact H2_) | (have H2_ := (Option.bind_some _ _).symm.trans H; with_reducible exact H2_) | with_reducible exact H | (rw [hy264]; exact H) | exact H
 have Ny264 := Aside0.mk hy264
 clear hy264
 replace H := Option.bind_eq_some_iff.mp H
 obtain ⟨⟨t267, t268⟩, A30, H⟩ := H
 replace H : ((flush_Decode.f k t267).bind fun bt269 => (if (t243.length : Int) = 2 then (if t246 = 0 then (if t259 = 11 then (if t268 = 0 then (if bt269.1 = 2 then (if (bt269.2.1.length : Int) = 1 then (if (bt269.2.2.1.length : Int) = 1 then (if 0 < (bt269.2.2.1.length : Int) then (if (rdOf ByteArray.empty bt269.2.2.1 0).toList = ([120] : List UInt8) then (if bt269.2.2.2 = 0 then ((flush_Common.f k (([(⟨#[97]⟩ : ByteArray), (⟨#[98]⟩ : ByteArray), (⟨#[99]⟩ : ByteArray)] : List ByteArray)) (([(⟨#[97]⟩ : ByteArray), (⟨#[98]⟩ : ByteArray), (⟨#[120]⟩ : ByteArray)] : List ByteArray))).bind fun t285 => (if t285 = 2 then ((flush_Prefix.f k ([] : List ByteArray) ([] : List ByteArray)).bind fun t286 => (some t286)) else (some false))) else (some false)) else (some false)) else (none)) else (some false)) else (some false)) else (some false)) else (some false)) else (some false)) else (some false)) else (some false))) = some r := H
 have A3 := Aside0.mk A30
 clear A30
 replace H := Option.bind_eq_some_iff.mp H
 obtain ⟨⟨t269, t270, t273, t276⟩, A40, H⟩ := H
 replace H : (if (t243.length : Int) = 2 then (if t246 = 0 then (if t259 = 11 then (if t268 = 0 then (if t269 = 2 then (if (t270.length : Int) = 1 then (if (t273.length : Int) = 1 then (if 0 < (t273.length : Int) then (if (rdOf ByteArray.empty t273 0).toList = ([120] : List UInt8) then (if t276 = 0 then ((flush_Common.f k (([(⟨#[97]⟩ : ByteArray), (⟨#[98]⟩ : ByteArray), (⟨#[99]⟩ : ByteArray)] : List ByteArray)) (([(⟨#[97]⟩ : ByteArray), (⟨#[98]⟩ : ByteArray), (⟨#[120]⟩ : ByteArray)] : List ByteArray))).bind fun t285 => (if t285 = 2 then ((flush_Prefix.f k ([] : List ByteArray) ([] : List ByteArray)).bind fun t286 => (some t286)) else (some false))) else (some false)) else (some false)) else (none)) else (some false)) else (some false)) else (some false)) else (some false)) else (some false)) else (some false)) else (some false)) = some r := H
 have A4 := Aside0.mk A40
 clear A40
 by_cases c5 : (t243.length : Int) = 2; rotate_left
 ·rw [if_neg c5] at H
  have c5b0 : ((t243.length : Int) == 2) = false := beq_eq_false_iff_ne.mpr c5
  have c5b1 : ((t243.length : Int) != 2) = true := bne_iff_ne.mpr c5
  exact absurd ((Option.some.inj H).trans hr_.out) (by decide)
 rw [if_pos c5] at H
 have c5b0 : ((t243.length : Int) == 2) = true := beq_iff_eq.mpr c5
 have c5b1 : ((t243.length : Int) != 2) = false := bne_eq_false_iff_eq.mpr c5
 clear c5
 by_cases c6 : t246 = 0; rotate_left
 ·rw [if_neg c6] at H
  have c6b0 : (t246 == 0) = false := beq_eq_false_iff_ne.mpr c6
  have c6b1 : (t246 != 0) = true := bne_iff_ne.mpr c6
  exact absurd ((Option.some.inj H).trans hr_.out) (by decide)
 rw [if_pos c6] at H
 have c6b0 : (t246 == 0) = true := beq_iff_eq.mpr c6
 have c6b1 : (t246 != 0) = false := bne_eq_false_iff_eq.mpr c6
 clear c6
 by_cases c7 : t259 = 11; rotate_left
 ·rw [if_neg c7] at H
  have c7b0 : (t259 == 11) = false := beq_eq_false_iff_ne.mpr c7
  have c7b1 : (t259 != 11) = true := bne_iff_ne.mpr c7
  exact absurd ((Option.some.inj H).trans hr_.out) (by decide)
 rw [if_pos c7] at H
 have c7b0 : (t259 == 11) = true := beq_iff_eq.mpr c7
 have c7b1 : (t259 != 11) = false := bne_eq_false_iff_eq.mpr c7
 clear c7
 by_cases c8 : t268 = 0; rotate_left
 ·rw [if_neg c8] at H
  have c8b0 : (t268 == 0) = false := beq_eq_false_iff_ne.mpr c8
  have c8b1 : (t268 != 0) = true := bne_iff_ne.mpr c8
  exact absurd ((Option.some.inj H).trans hr_.out) (by decide)
 rw [if_pos c8] at H
 have c8b0 : (t268 == 0) = true := beq_iff_eq.mpr c8
 have c8b1 : (t268 != 0) = false := bne_eq_false_iff_eq.mpr c8
 clear c8
 by_cases c9 : t269 = 2; rotate_left
 ·rw [if_neg c9] at H
  have c9b0 : (t269 == 2) = false := beq_eq_false_iff_ne.mpr c9
  have c9b1 : (t269 != 2) = true := bne_iff_ne.mpr c9
  exact absurd ((Option.some.inj H).trans hr_.out) (by decide)
 rw [if_pos c9] at H
 have c9b0 : (t269 == 2) = true := beq_iff_eq.mpr c9
 have c9b1 : (t269 != 2) = false := bne_eq_false_iff_eq.mpr c9
 clear c9
 by_cases c10 : (t270.length : Int) = 1; rotate_left
 ·rw [if_neg c10] at H
  have c10b0 : ((t270.length : Int) == 1) = false := beq_eq_false_iff_ne.mpr c10
  have c10b1 : ((t270.length : Int) != 1) = true := bne_iff_ne.mpr c10
  exact absurd ((Option.some.inj H).trans hr_.out) (by decide)
 rw [if_pos c10] at H
 have c10b0 : ((t270.length : Int) == 1) = true := beq_iff_eq.mpr c10
 have c10b1 : ((t270.length : Int) != 1) = false := bne_eq_false_iff_eq.mpr c10
 clear c10
 by_cases c11 : (t273.length : Int) = 1; rotate_left
 ·rw [if_neg c11] at H
  have c11b0 : ((t273.length : Int) == 1) = false := beq_eq_false_iff_ne.mpr c11
  have c11b1 : ((t273.length : Int) != 1) = true := bne_iff_ne.mpr c11
  exact absurd ((Option.some.inj H).trans hr_.out) (by decide)
 rw [if_pos c11] at H
 have c11b0 : ((t273.length : Int) == 1) = true := beq_iff_eq.mpr c11
 have c11b1 : ((t273.length : Int) != 1) = false := bne_eq_false_iff_eq.mpr c11
 clear c11
 by_cases c12 : 0 < (t273.length : Int); rotate_left
 ·rw [if_neg c12] at H
  exact absurd H (by simp)
 rw [if_pos c12] at H
 have c12b0 : decide (0 < (t273.length : Int)) = true := decide_eq_true c12
 have c12b1 : decide (0 < t273.length) = true := decide_eq_true (by omega)
 clear c12
 by_cases c13 : (rdOf ByteArray.empty t273 0).toList = ([120] : List UInt8); rotate_left
 ·rw [if_neg c13] at H
  have c13b0 : ((rdOf ByteArray.empty t273 0).toList == ([120] : List UInt8)) = false := beq_eq_false_iff_ne.mpr c13
  have c13b1 : ((rdOf ByteArray.empty t273 0).toList != ([120] : List UInt8)) = true := bne_iff_ne.mpr c13
  exact absurd ((Option.some.inj H).trans hr_.out) (by decide)
 rw [if_pos c13] at H
 have c13b0 : ((rdOf ByteArray.empty t273 0).toList == ([120] : List UInt8)) = true := beq_iff_eq.mpr c13
 have c13b1 : ((rdOf ByteArray.empty t273 0).toList != ([120] : List UInt8)) = false := bne_eq_false_iff_eq.mpr c13
 clear c13
 by_cases c14 : t276 = 0; rotate_left
 ·rw [if_neg c14] at H
  have c14b0 : (t276 == 0) = false := beq_eq_false_iff_ne.mpr c14
  have c14b1 : (t276 != 0) = true := bne_iff_ne.mpr c14
  exact absurd ((Option.some.inj H).trans hr_.out) (by decide)
 rw [if_pos c14] at H
 have c14b0 : (t276 == 0) = true := beq_iff_eq.mpr c14
 have c14b1 : (t276 != 0) = false := bne_eq_false_iff_eq.mpr c14
 clear c14
 obtain ⟨y279, hy279⟩ : ∃ y_ : List ByteArray, y_ = (([(⟨#[97]⟩ : ByteArray), (⟨#[98]⟩ : ByteArray), (⟨#[99]⟩ : ByteArray)] : List ByteArray)) := ⟨_, rfl⟩
 replace H : ((flush_Common.f k y279 (([(⟨#[97]⟩ : ByteArray), (⟨#[98]⟩ : ByteArray), (⟨#[120]⟩ : ByteArray)] : List ByteArray))).bind fun t285 => (if t285 = 2 then ((flush_Prefix.f k ([] : List ByteArray) ([] : List ByteArray)).bind fun t286 => (some t286)) else (some false))) = some r := by first | (rw [hy279]; with_reducible exact H) | (have H2_ := (Option.bind_some _ _).symm.trans H; rw [hy279]; with_reducible exact H2_) | (have H2_ := (Option.bind_some _ _).symm.trans H; with_reducible exact H2_) | with_reducible exact H | (rw [hy279]; exact H) | exact H
 have Ny279 := Aside0.mk hy279
 clear hy279
 obtain ⟨y282, hy282⟩ : ∃ y_ : List ByteArray, y_ = (([(⟨#[97]⟩ : ByteArray), (⟨#[98]⟩ : ByteArray), (⟨#[120]⟩ : ByteArray)] : List ByteArray)) := ⟨_, rfl⟩
 replace H : ((flush_Common.f k y279 y282).bind fun t285 => (if t285 = 2 then ((flush_Prefix.f k ([] : List ByteArray) ([] : List ByteArray)).bind fun t286 => (some t286)) else (some false))) = some r := by first | (rw [hy282]; with_reducible exact H) | (have H2_ := (Option.bind_some _ _).symm.trans H; rw [hy282]; with_reducible exact H2_) | (have H2_ := (Option.bind_some _ _).symm.trans H; with_reducible exact H2_) | with_reducible exact H | (rw [hy282]; exact H) | exact H
 have Ny282 := Aside0.mk hy282
 clear hy282
 replace H := Option.bind_eq_some_iff.mp H
 obtain ⟨t285, A150, H⟩ := H
 replace H : (if t285 = 2 then ((flush_Prefix.f k ([] : List ByteArray) ([] : List ByteArray)).bind fun t286 => (some t286)) else (some false)) = some r := H
 have A15 := Aside0.mk A150
 clear A150
 by_cases c16 : t285 = 2; rotate_left
 ·rw [if_neg c16] at H
  have c16b0 : (t285 == 2) = false := beq_eq_false_iff_ne.mpr c16
  have c16b1 : (t285 != 2) = true := bne_iff_ne.mpr c16
  exact absurd ((Option.some.inj H).trans hr_.out) (by decide)
 rw [if_pos c16] at H
 have c16b0 : (t285 == 2) = true := beq_iff_eq.mpr c16
 have c16b1 : (t285 != 2) = false := bne_eq_false_iff_eq.mpr c16
 clear c16
 replace H := Option.bind_eq_some_iff.mp H
 obtain ⟨t286, A170, H⟩ := H
 replace H : (some t286) = some r := H
 have A17 := Aside0.mk A170
 clear A170
 obtain rfl := Option.some.inj H
 go_enter Tryd.func8, Tryd.ntmps8
 go_wp2_with (first | ((with_reducible refine gate_dst (N := 12) rfl ?_); (try (refine gate_guard (by rfl) ?_; dsimp only)); refine Kd.R_lit Kd.string _ 9 ?hg (N := 12) ?hd (xs := ([(⟨#[97]⟩ : ByteArray)] : List ByteArray)) (inner := [.string (⟨#[97]⟩ : ByteArray)]) (ok := fun _ => True) (okp := fun _ => True) ?hr ?hp (fun _ hk => hk) trivial (Below.refl _ _) (Nat.le_refl _) (by simp) ?_; (case hd => rfl); (case hg => rfl); (case hr => first | (go_simp; done) | (go_simp; rfl)); (case hp => exact (Reps.one (show Kd.M Kd.string _ _ _ (⟨#[97]⟩ : ByteArray) [.string (⟨#[97]⟩ : ByteArray)] from rfl) (Reps.none _ _))); intro v235 w18 ho19 hb hg_ hnew_; clear hg_ hnew_; (first | rw [← Ny234.out] at ho19 | (simp only [Int.reduceToNat] at ho19; rw [← Ny234.out] at ho19)); have n0_ := Aside0.mk (Kd.R_lower ho19 (below_size bw)); have n1_ := Aside0.mk (below_step bw hb); clear HB; have aw := n0_; have HB := n1_; clear n0_ n1_; clear hb ho19) | ((with_reducible refine gate_dst (N := 13) rfl ?_); (try (refine gate_guard (by rfl) ?_; dsimp only)); refine Kd.R_lit Kd.string _ 9 ?hg (N := 13) ?hd (xs := ([(⟨#[97]⟩ : ByteArray), (⟨#[98]⟩ : ByteArray)] : List ByteArray)) (inner := [.string (⟨#[97]⟩ : ByteArray), .string (⟨#[98]⟩ : ByteArray)]) (ok := fun _ => True) (okp := fun _ => True) ?hr ?hp (fun _ hk => hk) trivial (Below.refl _ _) (Nat.le_refl _) (by simp) ?_; (case hd => rfl); (case hg => rfl); (case hr => first | (go_simp; done) | (go_simp; rfl)); (case hp => exact (Reps.one (show Kd.M Kd.string _ _ _ (⟨#[97]⟩ : ByteArray) [.string (⟨#[97]⟩ : ByteArray)] from rfl) (Reps.one (show Kd.M Kd.string _ _ _ (⟨#[98]⟩ : ByteArray) [.string (⟨#[98]⟩ : ByteArray)] from rfl) (Reps.none _ _)))); intro v238 w20 ho21 hb hg_ hnew_; clear hg_ hnew_; (first | rw [← Ny237.out] at ho21 | (simp only [Int.reduceToNat] at ho21; rw [← Ny237.out] at ho21)); have n0_ := Aside0.mk (Kd.R_elder' (by (with_reducible repeat (first | apply Kd.R_alloc | apply Kd.R_drewN | apply Kd.R_drew)); exact aw.out) (Kd.R_base ho21) hb); have n1_ := Aside0.mk (Kd.R_lower (Kd.R_new' ho21 (Kd.R_lt (by (with_reducible repeat (first | apply Kd.R_alloc | apply Kd.R_drewN | apply Kd.R_drew)); exact aw.out))) (below_size bw)); have n2_ := Aside0.mk (below_step bw hb); clear aw; clear HB; have aw := n0_; have a4 := n1_; have HB := n2_; clear n0_ n1_ n2_; clear hb ho21; obtain ⟨a7, a8, eo22⟩ := Kd.R_slice aw.out; subst eo22; obtain ⟨a9, ba, eo23⟩ := Kd.R_slice a4.out; subst eo23) | ((with_reducible refine gate_dst (N := 14) rfl ?_); (try (refine gate_guard (by rfl) ?_; dsimp only)); refine Kd.N_lit (Kd.slice 9 Kd.string) _ 23 ?hg (N' := 14) ?hd (xs := ([y234, y237, []] : List (List ByteArray))) (inner := [.slice a7 y234.length a8, .slice a9 y237.length ba, .slice none 0 0]) (ok := (fun _ => True)) (okp := (fun _ => True)) ?hr ?hp (fun _ hk => hk) ((show ∀ k_, w20.heap.size ≤ k_ → (fun _ => True) k_ from fun k_ hk => trivial) _ (Nat.le_refl _)) (Below.refl _ _) (Nat.le_refl _) (by simp) ?_; (case hd => rfl); (case hg => rfl); (case hr => first | (go_simp; done) | (go_simp; rfl)); (case hp => exact (Reps.one (show Kd.FK (Kd.slice 9 Kd.string) _ _ y234 [.slice a7 y234.length a8] from (Kd.FK_slice_mk (Kd.R_reads' (Kd.R_mono (ok' := (fun _ => True)) (aw.out) (fun k_ hk => trivial))).2.1 (Kd.R_F (Kd.R_mono (ok' := (fun _ => True)) (aw.out) (fun k_ hk => trivial))))) (Reps.one (show Kd.FK (Kd.slice 9 Kd.string) _ _ y237 [.slice a9 y237.length ba] from (Kd.FK_slice_mk (Kd.R_reads' (Kd.R_mono (ok' := (fun _ => True)) (a4.out) (fun k_ hk => trivial))).2.1 (Kd.R_F (Kd.R_mono (ok' := (fun _ => True)) (a4.out) (fun k_ hk => trivial))))) (Reps.one (show Kd.FK (Kd.slice 9 Kd.string) _ _ [] [.slice none 0 0] from (Kd.FK_slice_mk (Nat.le_refl _) (Kd.F_nil _ _ _))) (Reps.none _ _))))); intro v241 w24 ho25 hb hg_ hnew_; clear hg_ hnew_; (first | rw [← Ny240.out] at ho25 | (simp only [Int.reduceToNat] at ho25; rw [← Ny240.out] at ho25)); have n0_ := Aside0.mk (Kd.N_lower ho25 (below_size bw)); have n1_ := Aside0.mk (below_step bw hb); clear HB; clear aw; clear a4; have aa := n0_; have HB := n1_; clear n0_ n1_; clear hb ho25; obtain ⟨a2, a3, eo26⟩ := Kd.N_slice aa.out; subst eo26) | ((with_reducible refine gate_callee (f := 10) rfl ?_); refine goesL_ (some 15) rfl rfl Tryd.func10 (by kernel_rfl) rfl #[.slice a2 y240.length a3] rfl am ?_; (with_reducible refine (flush_Longest.calls k (fun k_ => True) _ _ y240 t243 t246 _ ?side1 A1.out).mono ?_); (case side1 => exact Kd.N_V (aa.out)); rintro e w27 ⟨v244, rfl, ho0, hb⟩; refine ⟨_, rfl, ?_⟩; have n0_ := Aside0.mk (Kd.N_elder' (by (with_reducible repeat (first | apply Kd.N_alloc | apply Kd.N_drewN | apply Kd.N_drew)); exact aa.out) (Kd.R_base ho0) hb); have n1_ := Aside0.mk (Kd.R_lower (Kd.R_mono (ok' := fun k_ => True) ho0 (fun _ hk_ => trivial)) (below_size bw)); have n2_ := Aside0.mk (below_step bw hb); clear aa; clear HB; have aa := n0_; have ab := n1_; have HB := n2_; clear n0_ n1_ n2_; (try clear hb); (try clear ho0)) | ((with_reducible refine gate_dst (N := 19) rfl ?_); (try (refine gate_guard (by rfl) ?_; dsimp only)); refine Kd.R_lit Kd.string _ 9 ?hg (N := 19) ?hd (xs := ([(⟨#[97]⟩ : ByteArray), (⟨#[98]⟩ : ByteArray)] : List ByteArray)) (inner := [.string (⟨#[97]⟩ : ByteArray), .string (⟨#[98]⟩ : ByteArray)]) (ok := fun _ => True) (okp := fun _ => True) ?hr ?hp (fun _ hk => hk) trivial (Below.refl _ _) (Nat.le_refl _) (by simp) ?_; (case hd => rfl); (case hg => rfl); (case hr => first | (go_simp; done) | (go_simp; rfl)); (case hp => exact (Reps.one (show Kd.M Kd.string _ _ _ (⟨#[97]⟩ : ByteArray) [.string (⟨#[97]⟩ : ByteArray)] from rfl) (Reps.one (show Kd.M Kd.string _ _ _ (⟨#[98]⟩ : ByteArray) [.string (⟨#[98]⟩ : ByteArray)] from rfl) (Reps.none _ _)))); intro v248 w28 ho29 hb hg_ hnew_; clear hg_ hnew_; (first | rw [← Ny247.out] at ho29 | (simp only [Int.reduceToNat] at ho29; rw [← Ny247.out] at ho29)); have n0_ := Aside0.mk (Kd.N_elder' (by (with_reducible repeat (first | apply Kd.N_alloc | apply Kd.N_drewN | apply Kd.N_drew)); exact aa.out) (Kd.R_base ho29) hb); have n1_ := Aside0.mk (Kd.R_elder' (by (with_reducible repeat (first | apply Kd.R_alloc | apply Kd.R_drewN | apply Kd.R_drew)); exact ab.out) (Kd.R_base ho29) hb); have n2_ := Aside0.mk (Kd.R_lower (Kd.R_new' ho29 (Kd.R_lt (by (with_reducible repeat (first | apply Kd.R_alloc | apply Kd.R_drewN | apply Kd.R_drew)); exact ab.out))) (below_size bw)); have n3_ := Aside0.mk (below_step bw hb); clear aa; clear ab; clear HB; have aa := n0_; have ab := n1_; have ax := n2_; have HB := n3_; clear n0_ n1_ n2_ n3_; clear hb ho29) | ((with_reducible refine gate_dst (N := 20) rfl ?_); (try (refine gate_guard (by rfl) ?_; dsimp only)); refine Kd.R_lit Kd.string _ 9 ?hg (N := 20) ?hd (xs := ([(⟨#[97]⟩ : ByteArray), (⟨#[99]⟩ : ByteArray)] : List ByteArray)) (inner := [.string (⟨#[97]⟩ : ByteArray), .string (⟨#[99]⟩ : ByteArray)]) (ok := fun _ => True) (okp := fun _ => True) ?hr ?hp (fun _ hk => hk) trivial (Below.refl _ _) (Nat.le_refl _) (by simp) ?_; (case hd => rfl); (case hg => rfl); (case hr => first | (go_simp; done) | (go_simp; rfl)); (case hp => exact (Reps.one (show Kd.M Kd.string _ _ _ (⟨#[97]⟩ : ByteArray) [.string (⟨#[97]⟩ : ByteArray)] from rfl) (Reps.one (show Kd.M Kd.string _ _ _ (⟨#[99]⟩ : ByteArray) [.string (⟨#[99]⟩ : ByteArray)] from rfl) (Reps.none _ _)))); intro v251 w30 ho31 hb hg_ hnew_; clear hg_ hnew_; (first | rw [← Ny250.out] at ho31 | (simp only [Int.reduceToNat] at ho31; rw [← Ny250.out] at ho31)); have n0_ := Aside0.mk (Kd.N_elder' (by (with_reducible repeat (first | apply Kd.N_alloc | apply Kd.N_drewN | apply Kd.N_drew)); exact aa.out) (Kd.R_base ho31) hb); have n1_ := Aside0.mk (Kd.R_elder' (by (with_reducible repeat (first | apply Kd.R_alloc | apply Kd.R_drewN | apply Kd.R_drew)); exact ab.out) (Kd.R_base ho31) hb); have n2_ := Aside0.mk (Kd.R_elder' (by (with_reducible repeat (first | apply Kd.R_alloc | apply Kd.R_drewN | apply Kd.R_drew)); exact ax.out) (Kd.R_base ho31) hb); have n3_ := Aside0.mk (Kd.R_lower (Kd.R_new' (Kd.R_new' ho31 (Kd.R_lt (by (with_reducible repeat (first | apply Kd.R_alloc | apply Kd.R_drewN | apply Kd.R_drew)); exact ab.out))) (Kd.R_lt (by (with_reducible repeat (first | apply Kd.R_alloc | apply Kd.R_drewN | apply Kd.R_drew)); exact ax.out))) (below_size bw)); have n4_ := Aside0.mk (below_step bw hb); clear aa; clear ab; clear ax; clear HB; have aa := n0_; have ab := n1_; have ax := n2_; have a5 := n3_; have HB := n4_; clear n0_ n1_ n2_ n3_ n4_; clear hb ho31; obtain ⟨bb, bc, eo32⟩ := Kd.R_slice ax.out; subst eo32; obtain ⟨bd, be, eo33⟩ := Kd.R_slice a5.out; subst eo33) | ((with_reducible refine gate_dst (N := 21) rfl ?_); (try (refine gate_guard (by rfl) ?_; dsimp only)); refine Kd.N_lit (Kd.slice 9 Kd.string) _ 23 ?hg (N' := 21) ?hd (xs := ([y247, y250] : List (List ByteArray))) (inner := [.slice bb y247.length bc, .slice bd y250.length be]) (ok := (fun k_ => some k_ ≠ (.slice a2 y240.length a3 : Value).ownBlock ∧ some k_ ≠ (v244 : Value).ownBlock)) (okp := (fun k_ => some k_ ≠ (.slice a2 y240.length a3 : Value).ownBlock ∧ some k_ ≠ (v244 : Value).ownBlock)) ?hr ?hp (fun _ hk => hk) ((show ∀ k_, w30.heap.size ≤ k_ → (fun k_ => some k_ ≠ (.slice a2 y240.length a3 : Value).ownBlock ∧ some k_ ≠ (v244 : Value).ownBlock) k_ from fun k_ hk => ⟨Kd.fresh' (Kd.N_lt (by (with_reducible repeat (first | apply Kd.N_alloc | apply Kd.N_drewN | apply Kd.N_drew)); exact aa.out)) k_ hk, Kd.fresh' (Kd.R_lt (by (with_reducible repeat (first | apply Kd.R_alloc | apply Kd.R_drewN | apply Kd.R_drew)); exact ab.out)) k_ hk⟩) _ (Nat.le_refl _)) (Below.refl _ _) (Nat.le_refl _) (by simp) ?_; (case hd => rfl); (case hg => rfl); (case hr => first | (go_simp; done) | (go_simp; rfl)); (case hp => exact (Reps.one (show Kd.FK (Kd.slice 9 Kd.string) _ _ y247 [.slice bb y247.length bc] from (Kd.FK_slice_mk (Kd.R_reads' (Kd.R_mono (ok' := (fun k_ => some k_ ≠ (.slice a2 y240.length a3 : Value).ownBlock ∧ some k_ ≠ (v244 : Value).ownBlock)) (Kd.R_apart' (ax.out) (Kd.N_typed aa.out) (by decide)) (fun k_ hk => ⟨hk.2, hk.1.1.2⟩))).2.1 (Kd.R_F (Kd.R_mono (ok' := (fun k_ => some k_ ≠ (.slice a2 y240.length a3 : Value).ownBlock ∧ some k_ ≠ (v244 : Value).ownBlock)) (Kd.R_apart' (ax.out) (Kd.N_typed aa.out) (by decide)) (fun k_ hk => ⟨hk.2, hk.1.1.2⟩))))) (Reps.one (show Kd.FK (Kd.slice 9 Kd.string) _ _ y250 [.slice bd y250.length be] from (Kd.FK_slice_mk (Kd.R_reads' (Kd.R_mono (ok' := (fun k_ => some k_ ≠ (.slice a2 y240.length a3 : Value).ownBlock ∧ some k_ ≠ (v244 : Value).ownBlock)) (Kd.R_apart' (a5.out) (Kd.N_typed aa.out) (by decide)) (fun k_ hk => ⟨hk.2, hk.1.1.2⟩))).2.1 (Kd.R_F (Kd.R_mono (ok' := (fun k_ => some k_ ≠ (.slice a2 y240.length a3 : Value).ownBlock ∧ some k_ ≠ (v244 : Value).ownBlock)) (Kd.R_apart' (a5.out) (Kd.N_typed aa.out) (by decide)) (fun k_ hk => ⟨hk.2, hk.1.1.2⟩))))) (Reps.none _ _)))); intro v254 w34 ho35 hb hg_ hnew_; clear hg_ hnew_; (first | rw [← Ny253.out] at ho35 | (simp only [Int.reduceToNat] at ho35; rw [← Ny253.out] at ho35)); have n0_ := Aside0.mk (Kd.N_elder' (by (with_reducible repeat (first | apply Kd.N_alloc | apply Kd.N_drewN | apply Kd.N_drew)); exact aa.out) (Kd.N_base ho35) hb); have n1_ := Aside0.mk (Kd.R_below (by (with_reducible repeat (first | apply Kd.R_alloc | apply Kd.R_drewN | apply Kd.R_drew)); exact ab.out) hb); have n2_ := Aside0.mk (Kd.N_lower ho35 (below_size bw)); have n3_ := Aside0.mk (below_step bw hb); clear aa; clear ab; clear HB; clear ax; clear a5; have aa := n0_; have ab := n1_; have ad := n2_; have HB := n3_; clear n0_ n1_ n2_ n3_; clear hb ho35; obtain ⟨Ao36, co36, eo36⟩ := Kd.N_slice ad.out; subst eo36) | ((with_reducible refine gate_callee (f := 10) rfl ?_); refine goesL_ (some 22) rfl rfl Tryd.func10 (by kernel_rfl) rfl #[.slice Ao36 y253.length co36] rfl am ?_; (with_reducible refine (flush_Longest.calls k (fun k_ => (some k_ ≠ (.slice a2 y240.length a3 : Value).ownBlock ∧ some k_ ≠ (v244 : Value).ownBlock)) _ _ y253 t256 t259 _ ?side1 A2.out).mono ?_); (case side1 => exact Kd.N_V (ad.out)); rintro e w37 ⟨v257, rfl, ho0, hb⟩; refine ⟨_, rfl, ?_⟩; have n0_ := Aside0.mk (Kd.N_elder' (by (with_reducible repeat (first | apply Kd.N_alloc | apply Kd.N_drewN | apply Kd.N_drew)); exact aa.out) (Kd.R_base ho0) hb); have n1_ := Aside0.mk (Kd.R_elder' (by (with_reducible repeat (first | apply Kd.R_alloc | apply Kd.R_drewN | apply Kd.R_drew)); exact ab.out) (Kd.R_base ho0) hb); have n2_ := Aside0.mk (Kd.N_elder' (by (with_reducible repeat (first | apply Kd.N_alloc | apply Kd.N_drewN | apply Kd.N_drew)); exact ad.out) (Kd.R_base ho0) hb); have n3_ := Aside0.mk (Kd.R_lower (Kd.R_new' (Kd.R_mono (ok' := fun k_ => True) ho0 (fun _ hk_ => trivial)) (Kd.R_lt (by (with_reducible repeat (first | apply Kd.R_alloc | apply Kd.R_drewN | apply Kd.R_drew)); exact ab.out))) (below_size bw)); have n4_ := Aside0.mk (below_step bw hb); clear aa; clear ab; clear ad; clear HB; have aa := n0_; have ab := n1_; have ad := n2_; have ae := n3_; have HB := n4_; clear n0_ n1_ n2_ n3_ n4_; (try clear hb); (try clear ho0)) | ((with_reducible refine gate_dst (N := 26) rfl ?_); (try (refine gate_guard (by rfl) ?_; dsimp only)); refine Kd.R_lit k47 _ 47 ?hg (N := 26) ?hd (xs := ([(⟨0, 1⟩ : S47)] : List (S47))) (inner := [.int .i64 0, .int .i64 1]) (ok := fun _ => True) (okp := fun _ => True) ?hr ?hp (fun _ hk => hk) trivial (Below.refl _ _) (Nat.le_refl _) (by simp) ?_; (case hd => rfl); (case hg => rfl); (case hr => first | (go_simp; done) | (go_simp; rfl)); (case hp => exact (Reps.c2 (show Kd.M k47 _ _ _ (⟨0, 1⟩ : S47) [.int .i64 0, .int .i64 1] from (k47_mkM _ _ _ (⟨0, 1⟩ : S47) )) (Reps.none _ _))); intro v261 w38 ho39 hb hg_ hnew_; clear hg_ hnew_; (first | rw [← Ny260.out] at ho39 | (simp only [Int.reduceToNat] at ho39; rw [← Ny260.out] at ho39)); have n0_ := Aside0.mk (Kd.N_elder' (by (with_reducible repeat (first | apply Kd.N_alloc | apply Kd.N_drewN | apply Kd.N_drew)); exact aa.out) (Kd.R_base ho39) hb); have n1_ := Aside0.mk (Kd.R_below (by (with_reducible repeat (first | apply Kd.R_alloc | apply Kd.R_drewN | apply Kd.R_drew)); exact ab.out) hb); have n2_ := Aside0.mk (Kd.N_elder' (by (with_reducible repeat (first | apply Kd.N_alloc | apply Kd.N_drewN | apply Kd.N_drew)); exact ad.out) (Kd.R_base ho39) hb); have n3_ := Aside0.mk (Kd.R_below (by (with_reducible repeat (first | apply Kd.R_alloc | apply Kd.R_drewN | apply Kd.R_drew)); exact ae.out) hb); have n4_ := Aside0.mk (Kd.R_lower ho39 (below_size bw)); have n5_ := Aside0.mk (below_step bw hb); clear aa; clear ab; clear ad; clear ae; clear HB; have aa := n0_; have ab := n1_; have ad := n2_; have ae := n3_; have ag := n4_; have HB := n5_; clear n0_ n1_ n2_ n3_ n4_ n5_; clear hb ho39; obtain ⟨az, a0, eo40⟩ := Kd.R_slice ag.out; subst eo40) | ((with_reducible refine gate_dst (N := 5) rfl ?_); (try (refine gate_guard (by rfl) ?_; dsimp only)); refine box_event ?hg (N := 5) ?hd (cs := #[.int .i64 0, .slice none 0 0]) (t := 35) ?hr ?_; (case hd => rfl); (case hg => rfl); (case hr => first | (go_simp; done) | (go_simp; rfl)); intro aj hg w41 hbox hb; have n0_ := Aside0.mk (Kd.N_below (Kd.N_elderB (by (with_reducible repeat (first | apply Kd.N_alloc | apply Kd.N_drewN | apply Kd.N_drew)); exact aa.out) aj (Nat.le_of_eq hg.symm)) hb); have n1_ := Aside0.mk (Kd.R_below (by (with_reducible repeat (first | apply Kd.R_alloc | apply Kd.R_drewN | apply Kd.R_drew)); exact ab.out) hb); have n2_ := Aside0.mk (Kd.N_below (Kd.N_elderB (by (with_reducible repeat (first | apply Kd.N_alloc | apply Kd.N_drewN | apply Kd.N_drew)); exact ad.out) aj (Nat.le_of_eq hg.symm)) hb); have n3_ := Aside0.mk (Kd.R_below (by (with_reducible repeat (first | apply Kd.R_alloc | apply Kd.R_drewN | apply Kd.R_drew)); exact ae.out) hb); have n4_ := Aside0.mk (Kd.R_below (by (with_reducible repeat (first | apply Kd.R_alloc | apply Kd.R_drewN | apply Kd.R_drew)); exact ag.out) hb); have n5_ := Aside0.mk (below_step bw hb); have n6_ := Aside0.mk (hbox); have n7_ := Aside0.mk ((g1 hg bw : w.heap.size ≤ aj)); have n8_ := Aside0.mk ((g1 hg bw : w.heap.size ≤ aj)); clear aa; clear ab; clear ad; clear ae; clear ag; clear HB; have aa := n0_; have ab := n1_; have ad := n2_; have ae := n3_; have ag := n4_; have HB := n5_; have af := n6_; have GW263 := n7_; have GE263 := n8_; clear n0_ n1_ n2_ n3_ n4_ n5_ n6_ n7_ n8_; clear hb hbox hg; obtain ⟨hcz42_0, hcz42_1, hfz42_0, hfz42_1⟩ := bx2 af.out) | ((with_reducible refine gate_dst (N := 30) rfl ?_); (try (refine gate_guard (by rfl) ?_; dsimp only)); refine Kd.R_lit Kd.string _ 9 ?hg (N := 30) ?hd (xs := ([(⟨#[120]⟩ : ByteArray)] : List ByteArray)) (inner := [.string (⟨#[120]⟩ : ByteArray)]) (ok := fun _ => True) (okp := fun _ => True) ?hr ?hp (fun _ hk => hk) trivial (Below.refl _ _) (Nat.le_refl _) (by simp) ?_; (case hd => rfl); (case hg => rfl); (case hr => first | (go_simp; done) | (go_simp; rfl)); (case hp => exact (Reps.one (show Kd.M Kd.string _ _ _ (⟨#[120]⟩ : ByteArray) [.string (⟨#[120]⟩ : ByteArray)] from rfl) (Reps.none _ _))); intro v265 w43 ho44 hb hg_ hnew_; clear hg_ hnew_; (first | rw [← Ny264.out] at ho44 | (simp only [Int.reduceToNat] at ho44; rw [← Ny264.out] at ho44)); have n0_ := Aside0.mk (Kd.N_elder' (by (with_reducible repeat (first | apply Kd.N_alloc | apply Kd.N_drewN | apply Kd.N_drew)); exact (Kd.N_mono (Kd.N_far (p := ⟨aj, 1, none⟩) (Kd.N_far (p := ⟨aj, 0, none⟩) (Kd.N_mono aa.out (fun k_ hk => (⟨hk, hk.2⟩ : _ ∧ k_ ≠ aj))) (fun _ hk => hk.2) (.int .i64 2)) (fun _ hk => hk.2) (.slice az y260.length a0)) (fun _ h_ => h_.1))) (Kd.R_base ho44) hb); have n1_ := Aside0.mk (Kd.R_elder' (by (with_reducible repeat (first | apply Kd.R_alloc | apply Kd.R_drewN | apply Kd.R_drew)); exact (Kd.R_mono (Kd.R_far (p := ⟨aj, 1, none⟩) (Kd.R_far (p := ⟨aj, 0, none⟩) (Kd.R_types ab.out af.out (by decide)) (fun _ hk => hk.2) (.int .i64 2)) (fun _ hk => hk.2) (.slice az y260.length a0)) (fun _ h_ => h_.1))) (Kd.R_base ho44) hb); have n2_ := Aside0.mk (Kd.N_elder' (by (with_reducible repeat (first | apply Kd.N_alloc | apply Kd.N_drewN | apply Kd.N_drew)); exact (Kd.N_mono (Kd.N_far (p := ⟨aj, 1, none⟩) (Kd.N_far (p := ⟨aj, 0, none⟩) (Kd.N_mono ad.out (fun k_ hk => (⟨hk, hk.2⟩ : _ ∧ k_ ≠ aj))) (fun _ hk => hk.2) (.int .i64 2)) (fun _ hk => hk.2) (.slice az y260.length a0)) (fun _ h_ => h_.1))) (Kd.R_base ho44) hb); have n3_ := Aside0.mk (Kd.R_elder' (by (with_reducible repeat (first | apply Kd.R_alloc | apply Kd.R_drewN | apply Kd.R_drew)); exact (Kd.R_mono (Kd.R_far (p := ⟨aj, 1, none⟩) (Kd.R_far (p := ⟨aj, 0, none⟩) (Kd.R_types ae.out af.out (by decide)) (fun _ hk => hk.2) (.int .i64 2)) (fun _ hk => hk.2) (.slice az y260.length a0)) (fun _ h_ => h_.1))) (Kd.R_base ho44) hb); have n4_ := Aside0.mk (Kd.R_below (by (with_reducible repeat (first | apply Kd.R_alloc | apply Kd.R_drewN | apply Kd.R_drew)); exact (Kd.R_mono (Kd.R_far (p := ⟨aj, 1, none⟩) (Kd.R_far (p := ⟨aj, 0, none⟩) (Kd.R_types ag.out af.out (by decide)) (fun _ hk => hk.2) (.int .i64 2)) (fun _ hk => hk.2) (.slice az y260.length a0)) (fun _ h_ => h_.1))) hb); have n5_ := Aside0.mk (Kd.R_lower (Kd.R_new' (Kd.R_new' ho44 (Kd.R_lt (by (with_reducible repeat (first | apply Kd.R_alloc | apply Kd.R_drewN | apply Kd.R_drew)); exact (Kd.R_mono (Kd.R_far (p := ⟨aj, 1, none⟩) (Kd.R_far (p := ⟨aj, 0, none⟩) (Kd.R_types ab.out af.out (by decide)) (fun _ hk => hk.2) (.int .i64 2)) (fun _ hk => hk.2) (.slice az y260.length a0)) (fun _ h_ => h_.1))))) (Kd.R_lt (by (with_reducible repeat (first | apply Kd.R_alloc | apply Kd.R_drewN | apply Kd.R_drew)); exact (Kd.R_mono (Kd.R_far (p := ⟨aj, 1, none⟩) (Kd.R_far (p := ⟨aj, 0, none⟩) (Kd.R_types ae.out af.out (by decide)) (fun _ hk => hk.2) (.int .i64 2)) (fun _ hk => hk.2) (.slice az y260.length a0)) (fun _ h_ => h_.1))))) (below_size bw)); have n6_ := Aside0.mk (blk_below (g := aj) (o := .cells #[.int .i64 2, .slice az y260.length a0] 35 (0, 0)) (by (with_reducible repeat (first | refine blk_drewN ?_ _ | refine blk_drew ?_ | refine blk_alloc ?_ _)); refine blk_put (cs := #[.int .i64 2, .slice none 0 0]) ?_ 1 _ rfl; (with_reducible repeat (first | refine blk_drewN ?_ _ | refine blk_drew ?_ | refine blk_alloc ?_ _)); refine blk_put (cs := #[.int .i64 0, .slice none 0 0]) ?_ 0 _ rfl; (with_reducible repeat (first | refine blk_drewN ?_ _ | refine blk_drew ?_ | refine blk_alloc ?_ _)); exact af.out) hb); have n7_ := Aside0.mk (below_step bw hb); clear aa; clear ab; clear ad; clear ae; clear ag; clear af; clear HB; have aa := n0_; have ab := n1_; have ad := n2_; have ae := n3_; have ag := n4_; have ah := n5_; have af := n6_; have HB := n7_; clear n0_ n1_ n2_ n3_ n4_ n5_ n6_ n7_; clear hb ho44; obtain ⟨Ao45, co45, eo45⟩ := Kd.R_slice ah.out; subst eo45) | ((with_reducible refine gate_callee (f := 16) rfl ?_); refine goesL_ (some 31) rfl rfl Tryd.func16 (by kernel_rfl) rfl #[.agg #[.int .i64 2, .slice az y260.length a0], .slice Ao45 y264.length co45] rfl am ?_; (with_reducible refine (flush_Encode.calls k 2 _ _ y260 _ _ y264 t267 t268 _ ?side1 ?side2 ?side3 ?side4 tbk A3.out).mono ?_); (case side1 => repeat (first | exact (Kd.R_reads' ag.out).2.2 | (with_reducible refine Kd.C_alloc ?_ _) | (with_reducible refine Kd.C_drewN ?_ _) | (with_reducible refine Kd.C_drew ?_))); (case side2 => exact (Kd.R_reads' ag.out).2.1); (case side3 => repeat (first | exact (Kd.R_reads' ah.out).2.2 | (with_reducible refine Kd.C_alloc ?_ _) | (with_reducible refine Kd.C_drewN ?_ _) | (with_reducible refine Kd.C_drew ?_))); (case side4 => exact (Kd.R_reads' ah.out).2.1); rintro e w46 ⟨rfl, hb⟩; refine ⟨_, rfl, ?_⟩; have n0_ := Aside0.mk (Kd.N_below (by (with_reducible repeat (first | apply Kd.N_alloc | apply Kd.N_drewN | apply Kd.N_drew)); exact aa.out) hb); have n1_ := Aside0.mk (Kd.R_below (by (with_reducible repeat (first | apply Kd.R_alloc | apply Kd.R_drewN | apply Kd.R_drew)); exact ab.out) hb); have n2_ := Aside0.mk (Kd.N_below (by (with_reducible repeat (first | apply Kd.N_alloc | apply Kd.N_drewN | apply Kd.N_drew)); exact ad.out) hb); have n3_ := Aside0.mk (Kd.R_below (by (with_reducible repeat (first | apply Kd.R_alloc | apply Kd.R_drewN | apply Kd.R_drew)); exact ae.out) hb); have n4_ := Aside0.mk (Kd.R_below (by (with_reducible repeat (first | apply Kd.R_alloc | apply Kd.R_drewN | apply Kd.R_drew)); exact ag.out) hb); have n5_ := Aside0.mk (Kd.R_below (by (with_reducible repeat (first | apply Kd.R_alloc | apply Kd.R_drewN | apply Kd.R_drew)); exact ah.out) hb); have n6_ := Aside0.mk (nb af.out hb); have n7_ := Aside0.mk (below_step bw hb); clear aa; clear ab; clear ad; clear ae; clear ag; clear ah; clear af; clear HB; have aa := n0_; have ab := n1_; have ad := n2_; have ae := n3_; have ag := n4_; have ah := n5_; have af := n6_; have HB := n7_; clear n0_ n1_ n2_ n3_ n4_ n5_ n6_ n7_; (try clear hb)) | ((with_reducible refine gate_callee (f := 17) rfl ?_); refine goesL_ (some 36) rfl rfl Tryd.func17 (by kernel_rfl) rfl #[.string t267] rfl am ?_; (with_reducible refine (flush_Decode.calls k t267 t269 t270 t273 t276 _ tbk A4.out).mono ?_); rintro e w47 ⟨v271, v274, rfl, ho0, ho1, hb⟩; refine ⟨_, rfl, ?_⟩; have n0_ := Aside0.mk (Kd.N_mono (Kd.N_told (Kd.N_told (Kd.N_old (by (with_reducible repeat (first | apply Kd.N_alloc | apply Kd.N_drewN | apply Kd.N_drew)); exact aa.out) hb) (Kd.R_base ho0)) (Kd.R_base ho1)) (fun _ h_ => h_.1)); have n1_ := Aside0.mk (Kd.R_elder' (by (with_reducible repeat (first | apply Kd.R_alloc | apply Kd.R_drewN | apply Kd.R_drew)); exact ab.out) (Kd.R_base ho1) hb); have n2_ := Aside0.mk (Kd.N_mono (Kd.N_told (Kd.N_told (Kd.N_old (by (with_reducible repeat (first | apply Kd.N_alloc | apply Kd.N_drewN | apply Kd.N_drew)); exact ad.out) hb) (Kd.R_base ho0)) (Kd.R_base ho1)) (fun _ h_ => h_.1)); have n3_ := Aside0.mk (Kd.R_elder' (by (with_reducible repeat (first | apply Kd.R_alloc | apply Kd.R_drewN | apply Kd.R_drew)); exact ae.out) (Kd.R_base ho1) hb); have n4_ := Aside0.mk (Kd.R_elder' (by (with_reducible repeat (first | apply Kd.R_alloc | apply Kd.R_drewN | apply Kd.R_drew)); exact ag.out) (Kd.R_base ho0) hb); have n5_ := Aside0.mk (Kd.R_elder' (by (with_reducible repeat (first | apply Kd.R_alloc | apply Kd.R_drewN | apply Kd.R_drew)); exact ah.out) (Kd.R_base ho1) hb); have n6_ := Aside0.mk (Kd.R_lower (Kd.R_new' ho0 (Kd.R_lt (by (with_reducible repeat (first | apply Kd.R_alloc | apply Kd.R_drewN | apply Kd.R_drew)); exact ag.out))) (below_size bw)); have n7_ := Aside0.mk (Kd.R_lower (Kd.R_new' (Kd.R_new' (Kd.R_new' ho1 (Kd.R_lt (by (with_reducible repeat (first | apply Kd.R_alloc | apply Kd.R_drewN | apply Kd.R_drew)); exact ab.out))) (Kd.R_lt (by (with_reducible repeat (first | apply Kd.R_alloc | apply Kd.R_drewN | apply Kd.R_drew)); exact ae.out))) (Kd.R_lt (by (with_reducible repeat (first | apply Kd.R_alloc | apply Kd.R_drewN | apply Kd.R_drew)); exact ah.out))) (below_size bw)); have n8_ := Aside0.mk (nb af.out hb); have n9_ := Aside0.mk (below_step bw hb); clear aa; clear ab; clear ad; clear ae; clear ag; clear ah; clear af; clear HB; have aa := n0_; have ab := n1_; have ad := n2_; have ae := n3_; have ag := n4_; have ah := n5_; have al := n6_; have ak := n7_; have af := n8_; have HB := n9_; clear n0_ n1_ n2_ n3_ n4_ n5_ n6_ n7_ n8_ n9_; (try clear hb); (try clear ho0); (try clear ho1)) | ((with_reducible refine gate_dst (N := 8) rfl ?_); (try (refine gate_guard (by rfl) ?_; dsimp only)); refine box_event ?hg (N := 8) ?hd (cs := #[.int .i64 0, .slice none 0 0]) (t := 35) ?hr ?_; (case hd => rfl); (case hg => rfl); (case hr => first | (go_simp; done) | (go_simp; rfl)); intro ac hg w48 hbox hb; have n0_ := Aside0.mk (Kd.N_below (Kd.N_elderB (by (with_reducible repeat (first | apply Kd.N_alloc | apply Kd.N_drewN | apply Kd.N_drew)); exact aa.out) ac (Nat.le_of_eq hg.symm)) hb); have n1_ := Aside0.mk (Kd.R_below (by (with_reducible repeat (first | apply Kd.R_alloc | apply Kd.R_drewN | apply Kd.R_drew)); exact ab.out) hb); have n2_ := Aside0.mk (Kd.N_below (Kd.N_elderB (by (with_reducible repeat (first | apply Kd.N_alloc | apply Kd.N_drewN | apply Kd.N_drew)); exact ad.out) ac (Nat.le_of_eq hg.symm)) hb); have n3_ := Aside0.mk (Kd.R_below (by (with_reducible repeat (first | apply Kd.R_alloc | apply Kd.R_drewN | apply Kd.R_drew)); exact ae.out) hb); have n4_ := Aside0.mk (Kd.R_below (by (with_reducible repeat (first | apply Kd.R_alloc | apply Kd.R_drewN | apply Kd.R_drew)); exact ag.out) hb); have n5_ := Aside0.mk (Kd.R_below (by (with_reducible repeat (first | apply Kd.R_alloc | apply Kd.R_drewN | apply Kd.R_drew)); exact ah.out) hb); have n6_ := Aside0.mk (Kd.R_below (by (with_reducible repeat (first | apply Kd.R_alloc | apply Kd.R_drewN | apply Kd.R_drew)); exact al.out) hb); have n7_ := Aside0.mk (Kd.R_below (by (with_reducible repeat (first | apply Kd.R_alloc | apply Kd.R_drewN | apply Kd.R_drew)); exact ak.out) hb); have n8_ := Aside0.mk (nb af.out hb); have n9_ := Aside0.mk (below_step bw hb); have ap := Aside0.mk (hbox); have aq := Aside0.mk ((g1 hg bw : w.heap.size ≤ ac)); have ay := Aside0.mk ((g1 hg bw : w.heap.size ≤ ac)); have bf := Aside0.mk ((n1 hg af.out : aj ≠ ac)); have bg := Aside0.mk ((n2 hg af.out : ac ≠ aj)); clear aa; clear ab; clear ad; clear ae; clear ag; clear ah; clear al; clear ak; clear af; clear HB; have aa := n0_; have ab := n1_; have ad := n2_; have ae := n3_; have ag := n4_; have ah := n5_; have al := n6_; have ak := n7_; have af := n8_; have HB := n9_; have ai := ap; have GW277 := aq; have GE277 := ay; have a1 := bf; have NB277_263 := bg; clear n0_ n1_ n2_ n3_ n4_ n5_ n6_ n7_ n8_ n9_ ap aq ay bf bg; clear hb hbox hg; have hnb49 := NB277_263.out; have hnc49 := a1.out; obtain ⟨hcz50_0, hcz50_1, hfz50_0, hfz50_1⟩ := bx2 ai.out; obtain ⟨ar, au, eo51⟩ := Kd.R_slice al.out; subst eo51; obtain ⟨Ao52, co52, eo52⟩ := Kd.R_slice ab.out; subst eo52; obtain ⟨Ao53, co53, eo53⟩ := Kd.R_slice ak.out; subst eo53; have p278 : 0 ≤ (0 : Int) := (by omega); have q278 : 0 < (t273.length : Int) := od; obtain ⟨a6, e278, ao⟩ := Kd.at_string (Kd.R_reads' ak.out).2.2 0 p278 q278; cases e278; have qi278 : (0 < t273.length) = True := eq_true (by omega); (try rw [show ((0 : Int)).toNat = 0 from rfl] at ao); (try rw [Addr.add_zero'] at ao); have hn278_0 : a6.block ≠ ac := Kd.own_blk (Kd.R_ne ak.out ai.out (by decide)); have hn278_1 : a6.block ≠ ac := Kd.own_blk (Kd.R_ne ak.out ai.out (by decide)); replace ao := (cell_far (p := ⟨ac, 0, none⟩) (by first | (rw [add_block]; exact hn278_0) | (show (Addr.add _ _).block ≠ _; rw [add_block]; exact hn278_0) | exact hn278_0) (.int .i64 t269)).trans ao; replace ao := (cell_far (p := ⟨ac, 1, none⟩) (by first | (rw [add_block]; exact hn278_1) | (show (Addr.add _ _).block ≠ _; rw [add_block]; exact hn278_1) | exact hn278_1) (.slice ar t270.length au)).trans ao; clear hn278_0; clear hn278_1; replace p278 := eq_true p278; replace q278 := eq_true q278) | ((with_reducible refine gate_dst (N := 82) rfl ?_); (try (refine gate_guard (by rfl) ?_; dsimp only)); refine Kd.R_lit Kd.string _ 9 ?hg (N := 82) ?hd (xs := ([(⟨#[97]⟩ : ByteArray), (⟨#[98]⟩ : ByteArray), (⟨#[99]⟩ : ByteArray)] : List ByteArray)) (inner := [.string (⟨#[97]⟩ : ByteArray), .string (⟨#[98]⟩ : ByteArray), .string (⟨#[99]⟩ : ByteArray)]) (ok := fun _ => True) (okp := fun _ => True) ?hr ?hp (fun _ hk => hk) trivial (Below.refl _ _) (Nat.le_refl _) (by simp) ?_; (case hd => rfl); (case hg => rfl); (case hr => first | (go_simp; done) | (go_simp; rfl)); (case hp => exact (Reps.one (show Kd.M Kd.string _ _ _ (⟨#[97]⟩ : ByteArray) [.string (⟨#[97]⟩ : ByteArray)] from rfl) (Reps.one (show Kd.M Kd.string _ _ _ (⟨#[98]⟩ : ByteArray) [.string (⟨#[98]⟩ : ByteArray)] from rfl) (Reps.one (show Kd.M Kd.string _ _ _ (⟨#[99]⟩ : ByteArray) [.string (⟨#[99]⟩ : ByteArray)] from rfl) (Reps.none _ _))))); intro v280 w54 ho55 hb hg_ hnew_; clear hg_ hnew_; (first | rw [← Ny279.out] at ho55 | (simp only [Int.reduceToNat] at ho55; rw [← Ny279.out] at ho55)); have n0_ := Aside0.mk (Kd.N_elder' (by (with_reducible repeat (first | apply Kd.N_alloc | apply Kd.N_drewN | apply Kd.N_drew)); exact (Kd.N_mono (Kd.N_far (p := ⟨ac, 1, none⟩) (Kd.N_far (p := ⟨ac, 0, none⟩) (Kd.N_mono aa.out (fun k_ hk => (⟨hk, hk.2⟩ : _ ∧ k_ ≠ ac))) (fun _ hk => hk.2) (.int .i64 t269)) (fun _ hk => hk.2) (.slice ar t270.length au)) (fun _ h_ => h_.1))) (Kd.R_base ho55) hb); have n1_ := Aside0.mk (Kd.R_elder' (by (with_reducible repeat (first | apply Kd.R_alloc | apply Kd.R_drewN | apply Kd.R_drew)); exact (Kd.R_mono (Kd.R_far (p := ⟨ac, 1, none⟩) (Kd.R_far (p := ⟨ac, 0, none⟩) (Kd.R_types ab.out ai.out (by decide)) (fun _ hk => hk.2) (.int .i64 t269)) (fun _ hk => hk.2) (.slice ar t270.length au)) (fun _ h_ => h_.1))) (Kd.R_base ho55) hb); have n2_ := Aside0.mk (Kd.N_elder' (by (with_reducible repeat (first | apply Kd.N_alloc | apply Kd.N_drewN | apply Kd.N_drew)); exact (Kd.N_mono (Kd.N_far (p := ⟨ac, 1, none⟩) (Kd.N_far (p := ⟨ac, 0, none⟩) (Kd.N_mono ad.out (fun k_ hk => (⟨hk, hk.2⟩ : _ ∧ k_ ≠ ac))) (fun _ hk => hk.2) (.int .i64 t269)) (fun _ hk => hk.2) (.slice ar t270.length au)) (fun _ h_ => h_.1))) (Kd.R_base ho55) hb); have n3_ := Aside0.mk (Kd.R_elder' (by (with_reducible repeat (first | apply Kd.R_alloc | apply Kd.R_drewN | apply Kd.R_drew)); exact (Kd.R_mono (Kd.R_far (p := ⟨ac, 1, none⟩) (Kd.R_far (p := ⟨ac, 0, none⟩) (Kd.R_types ae.out ai.out (by decide)) (fun _ hk => hk.2) (.int .i64 t269)) (fun _ hk => hk.2) (.slice ar t270.length au)) (fun _ h_ => h_.1))) (Kd.R_base ho55) hb); have n4_ := Aside0.mk (Kd.R_below (by (with_reducible repeat (first | apply Kd.R_alloc | apply Kd.R_drewN | apply Kd.R_drew)); exact (Kd.R_mono (Kd.R_far (p := ⟨ac, 1, none⟩) (Kd.R_far (p := ⟨ac, 0, none⟩) (Kd.R_types ag.out ai.out (by decide)) (fun _ hk => hk.2) (.int .i64 t269)) (fun _ hk => hk.2) (.slice ar t270.length au)) (fun _ h_ => h_.1))) hb); have n5_ := Aside0.mk (Kd.R_elder' (by (with_reducible repeat (first | apply Kd.R_alloc | apply Kd.R_drewN | apply Kd.R_drew)); exact (Kd.R_mono (Kd.R_far (p := ⟨ac, 1, none⟩) (Kd.R_far (p := ⟨ac, 0, none⟩) (Kd.R_types ah.out ai.out (by decide)) (fun _ hk => hk.2) (.int .i64 t269)) (fun _ hk => hk.2) (.slice ar t270.length au)) (fun _ h_ => h_.1))) (Kd.R_base ho55) hb); have n6_ := Aside0.mk (Kd.R_below (by (with_reducible repeat (first | apply Kd.R_alloc | apply Kd.R_drewN | apply Kd.R_drew)); exact (Kd.R_mono (Kd.R_far (p := ⟨ac, 1, none⟩) (Kd.R_far (p := ⟨ac, 0, none⟩) (Kd.R_types al.out ai.out (by decide)) (fun _ hk => hk.2) (.int .i64 t269)) (fun _ hk => hk.2) (.slice ar t270.length au)) (fun _ h_ => h_.1))) hb); have n7_ := Aside0.mk (Kd.R_elder' (by (with_reducible repeat (first | apply Kd.R_alloc | apply Kd.R_drewN | apply Kd.R_drew)); exact (Kd.R_mono (Kd.R_far (p := ⟨ac, 1, none⟩) (Kd.R_far (p := ⟨ac, 0, none⟩) (Kd.R_types ak.out ai.out (by decide)) (fun _ hk => hk.2) (.int .i64 t269)) (fun _ hk => hk.2) (.slice ar t270.length au)) (fun _ h_ => h_.1))) (Kd.R_base ho55) hb); have n8_ := Aside0.mk (Kd.R_lower (Kd.R_new' (Kd.R_new' (Kd.R_new' (Kd.R_new' ho55 (Kd.R_lt (by (with_reducible repeat (first | apply Kd.R_alloc | apply Kd.R_drewN | apply Kd.R_drew)); exact (Kd.R_mono (Kd.R_far (p := ⟨ac, 1, none⟩) (Kd.R_far (p := ⟨ac, 0, none⟩) (Kd.R_types ab.out ai.out (by decide)) (fun _ hk => hk.2) (.int .i64 t269)) (fun _ hk => hk.2) (.slice ar t270.length au)) (fun _ h_ => h_.1))))) (Kd.R_lt (by (with_reducible repeat (first | apply Kd.R_alloc | apply Kd.R_drewN | apply Kd.R_drew)); exact (Kd.R_mono (Kd.R_far (p := ⟨ac, 1, none⟩) (Kd.R_far (p := ⟨ac, 0, none⟩) (Kd.R_types ae.out ai.out (by decide)) (fun _ hk => hk.2) (.int .i64 t269)) (fun _ hk => hk.2) (.slice ar t270.length au)) (fun _ h_ => h_.1))))) (Kd.R_lt (by (with_reducible repeat (first | apply Kd.R_alloc | apply Kd.R_drewN | apply Kd.R_drew)); exact (Kd.R_mono (Kd.R_far (p := ⟨ac, 1, none⟩) (Kd.R_far (p := ⟨ac, 0, none⟩) (Kd.R_types ah.out ai.out (by decide)) (fun _ hk => hk.2) (.int .i64 t269)) (fun _ hk => hk.2) (.slice ar t270.length au)) (fun _ h_ => h_.1))))) (Kd.R_lt (by (with_reducible repeat (first | apply Kd.R_alloc | apply Kd.R_drewN | apply Kd.R_drew)); exact (Kd.R_mono (Kd.R_far (p := ⟨ac, 1, none⟩) (Kd.R_far (p := ⟨ac, 0, none⟩) (Kd.R_types ak.out ai.out (by decide)) (fun _ hk => hk.2) (.int .i64 t269)) (fun _ hk => hk.2) (.slice ar t270.length au)) (fun _ h_ => h_.1))))) (below_size bw)); have n9_ := Aside0.mk (blk_below (g := aj) (o := .cells #[.int .i64 2, .slice az y260.length a0] 35 (0, 0)) (by (with_reducible repeat (first | refine blk_drewN ?_ _ | refine blk_drew ?_ | refine blk_alloc ?_ _ | refine blk_far ?_ a1.out _)); exact af.out) hb); have ap := Aside0.mk (blk_below (g := ac) (o := .cells #[.int .i64 t269, .slice ar t270.length au] 35 (0, 0)) (by (with_reducible repeat (first | refine blk_drewN ?_ _ | refine blk_drew ?_ | refine blk_alloc ?_ _)); refine blk_put (cs := #[.int .i64 t269, .slice none 0 0]) ?_ 1 _ rfl; (with_reducible repeat (first | refine blk_drewN ?_ _ | refine blk_drew ?_ | refine blk_alloc ?_ _)); refine blk_put (cs := #[.int .i64 0, .slice none 0 0]) ?_ 0 _ rfl; (with_reducible repeat (first | refine blk_drewN ?_ _ | refine blk_drew ?_ | refine blk_alloc ?_ _)); exact ai.out) hb); have aq := Aside0.mk (below_step bw hb); clear aa; clear ab; clear ad; clear ae; clear ag; clear ah; clear al; clear ak; clear af; clear ai; clear HB; have aa := n0_; have ab := n1_; have ad := n2_; have ae := n3_; have ag := n4_; have ah := n5_; have al := n6_; have ak := n7_; have an := n8_; have af := n9_; have ai := ap; have HB := aq; clear n0_ n1_ n2_ n3_ n4_ n5_ n6_ n7_ n8_ n9_ ap aq; clear hb ho55) | ((with_reducible refine gate_dst (N := 83) rfl ?_); (try (refine gate_guard (by rfl) ?_; dsimp only)); refine Kd.R_lit Kd.string _ 9 ?hg (N := 83) ?hd (xs := ([(⟨#[97]⟩ : ByteArray), (⟨#[98]⟩ : ByteArray), (⟨#[120]⟩ : ByteArray)] : List ByteArray)) (inner := [.string (⟨#[97]⟩ : ByteArray), .string (⟨#[98]⟩ : ByteArray), .string (⟨#[120]⟩ : ByteArray)]) (ok := fun _ => True) (okp := fun _ => True) ?hr ?hp (fun _ hk => hk) trivial (Below.refl _ _) (Nat.le_refl _) (by simp) ?_; (case hd => rfl); (case hg => rfl); (case hr => first | (go_simp; done) | (go_simp; rfl)); (case hp => exact (Reps.one (show Kd.M Kd.string _ _ _ (⟨#[97]⟩ : ByteArray) [.string (⟨#[97]⟩ : ByteArray)] from rfl) (Reps.one (show Kd.M Kd.string _ _ _ (⟨#[98]⟩ : ByteArray) [.string (⟨#[98]⟩ : ByteArray)] from rfl) (Reps.one (show Kd.M Kd.string _ _ _ (⟨#[120]⟩ : ByteArray) [.string (⟨#[120]⟩ : ByteArray)] from rfl) (Reps.none _ _))))); intro v283 w56 ho57 hb hg_ hnew_; clear hg_ hnew_; (first | rw [← Ny282.out] at ho57 | (simp only [Int.reduceToNat] at ho57; rw [← Ny282.out] at ho57)); have n0_ := Aside0.mk (Kd.N_elder' (by (with_reducible repeat (first | apply Kd.N_alloc | apply Kd.N_drewN | apply Kd.N_drew)); exact aa.out) (Kd.R_base ho57) hb); have n1_ := Aside0.mk (Kd.R_elder' (by (with_reducible repeat (first | apply Kd.R_alloc | apply Kd.R_drewN | apply Kd.R_drew)); exact ab.out) (Kd.R_base ho57) hb); have n2_ := Aside0.mk (Kd.N_elder' (by (with_reducible repeat (first | apply Kd.N_alloc | apply Kd.N_drewN | apply Kd.N_drew)); exact ad.out) (Kd.R_base ho57) hb); have n3_ := Aside0.mk (Kd.R_elder' (by (with_reducible repeat (first | apply Kd.R_alloc | apply Kd.R_drewN | apply Kd.R_drew)); exact ae.out) (Kd.R_base ho57) hb); have n4_ := Aside0.mk (Kd.R_below (by (with_reducible repeat (first | apply Kd.R_alloc | apply Kd.R_drewN | apply Kd.R_drew)); exact ag.out) hb); have n5_ := Aside0.mk (Kd.R_elder' (by (with_reducible repeat (first | apply Kd.R_alloc | apply Kd.R_drewN | apply Kd.R_drew)); exact ah.out) (Kd.R_base ho57) hb); have n6_ := Aside0.mk (Kd.R_below (by (with_reducible repeat (first | apply Kd.R_alloc | apply Kd.R_drewN | apply Kd.R_drew)); exact al.out) hb); have n7_ := Aside0.mk (Kd.R_elder' (by (with_reducible repeat (first | apply Kd.R_alloc | apply Kd.R_drewN | apply Kd.R_drew)); exact ak.out) (Kd.R_base ho57) hb); have n8_ := Aside0.mk (Kd.R_elder' (by (with_reducible repeat (first | apply Kd.R_alloc | apply Kd.R_drewN | apply Kd.R_drew)); exact an.out) (Kd.R_base ho57) hb); have n9_ := Aside0.mk (Kd.R_lower (Kd.R_new' (Kd.R_new' (Kd.R_new' (Kd.R_new' (Kd.R_new' ho57 (Kd.R_lt (by (with_reducible repeat (first | apply Kd.R_alloc | apply Kd.R_drewN | apply Kd.R_drew)); exact ab.out))) (Kd.R_lt (by (with_reducible repeat (first | apply Kd.R_alloc | apply Kd.R_drewN | apply Kd.R_drew)); exact ae.out))) (Kd.R_lt (by (with_reducible repeat (first | apply Kd.R_alloc | apply Kd.R_drewN | apply Kd.R_drew)); exact ah.out))) (Kd.R_lt (by (with_reducible repeat (first | apply Kd.R_alloc | apply Kd.R_drewN | apply Kd.R_drew)); exact ak.out))) (Kd.R_lt (by (with_reducible repeat (first | apply Kd.R_alloc | apply Kd.R_drewN | apply Kd.R_drew)); exact an.out))) (below_size bw)); have ap := Aside0.mk (nb af.out hb); have aq := Aside0.mk (nb ai.out hb); have ay := Aside0.mk (below_step bw hb); clear aa; clear ab; clear ad; clear ae; clear ag; clear ah; clear al; clear ak; clear an; clear af; clear ai; clear HB; have aa := n0_; have ab := n1_; have ad := n2_; have ae := n3_; have ag := n4_; have ah := n5_; have al := n6_; have ak := n7_; have an := n8_; have av := n9_; have af := ap; have ai := aq; have HB := ay; clear n0_ n1_ n2_ n3_ n4_ n5_ n6_ n7_ n8_ n9_ ap aq ay; clear hb ho57; obtain ⟨Ao58, co58, eo58⟩ := Kd.R_slice an.out; subst eo58; obtain ⟨Ao59, co59, eo59⟩ := Kd.R_slice av.out; subst eo59) | (go_at_call 12; (with_reducible refine (flush_Common.calls k _ _ y279 _ _ y282 t285 _ ?side1 ?side2 ?side3 ?side4 A15.out).mono ?_); (case side1 => repeat (first | exact (Kd.R_reads' an.out).2.2 | (with_reducible refine Kd.C_alloc ?_ _) | (with_reducible refine Kd.C_drewN ?_ _) | (with_reducible refine Kd.C_drew ?_))); (case side2 => exact (Kd.R_reads' an.out).2.1); (case side3 => repeat (first | exact (Kd.R_reads' av.out).2.2 | (with_reducible refine Kd.C_alloc ?_ _) | (with_reducible refine Kd.C_drewN ?_ _) | (with_reducible refine Kd.C_drew ?_))); (case side4 => exact (Kd.R_reads' av.out).2.1); rintro e w60 ⟨rfl, hb⟩; have n0_ := Aside0.mk (Kd.N_below (by (with_reducible repeat (first | apply Kd.N_alloc | apply Kd.N_drewN | apply Kd.N_drew)); exact aa.out) hb); have n1_ := Aside0.mk (Kd.R_below (by (with_reducible repeat (first | apply Kd.R_alloc | apply Kd.R_drewN | apply Kd.R_drew)); exact ab.out) hb); have n2_ := Aside0.mk (Kd.N_below (by (with_reducible repeat (first | apply Kd.N_alloc | apply Kd.N_drewN | apply Kd.N_drew)); exact ad.out) hb); have n3_ := Aside0.mk (Kd.R_below (by (with_reducible repeat (first | apply Kd.R_alloc | apply Kd.R_drewN | apply Kd.R_drew)); exact ae.out) hb); have n4_ := Aside0.mk (Kd.R_below (by (with_reducible repeat (first | apply Kd.R_alloc | apply Kd.R_drewN | apply Kd.R_drew)); exact ag.out) hb); have n5_ := Aside0.mk (Kd.R_below (by (with_reducible repeat (first | apply Kd.R_alloc | apply Kd.R_drewN | apply Kd.R_drew)); exact ah.out) hb); have n6_ := Aside0.mk (Kd.R_below (by (with_reducible repeat (first | apply Kd.R_alloc | apply Kd.R_drewN | apply Kd.R_drew)); exact al.out) hb); have n7_ := Aside0.mk (Kd.R_below (by (with_reducible repeat (first | apply Kd.R_alloc | apply Kd.R_drewN | apply Kd.R_drew)); exact ak.out) hb); have n8_ := Aside0.mk (Kd.R_below (by (with_reducible repeat (first | apply Kd.R_alloc | apply Kd.R_drewN | apply Kd.R_drew)); exact an.out) hb); have n9_ := Aside0.mk (Kd.R_below (by (with_reducible repeat (first | apply Kd.R_alloc | apply Kd.R_drewN | apply Kd.R_drew)); exact av.out) hb); have ap := Aside0.mk (nb af.out hb); have aq := Aside0.mk (nb ai.out hb); have ay := Aside0.mk (below_step bw hb); clear aa; clear ab; clear ad; clear ae; clear ag; clear ah; clear al; clear ak; clear an; clear av; clear af; clear ai; clear HB; have aa := n0_; have ab := n1_; have ad := n2_; have ae := n3_; have ag := n4_; have ah := n5_; have al := n6_; have ak := n7_; have an := n8_; have av := n9_; have af := ap; have ai := aq; have HB := ay; clear n0_ n1_ n2_ n3_ n4_ n5_ n6_ n7_ n8_ n9_ ap aq ay; (try clear hb)) | (go_at_call 14; (refine (flush_Prefix.calls k _ _ ([] : List ByteArray) _ _ ([] : List ByteArray) t286 _ ?side1 ?side2 ?side3 ?side4 A17.out).mono ?_); (case side1 => exact Kd.C_nil _ _); (case side2 => exact Nat.le_refl _); (case side3 => exact Kd.C_nil _ _); (case side4 => exact Nat.le_refl _); rintro e w61 ⟨rfl, hb⟩; have n0_ := Aside0.mk (Kd.N_below (by (with_reducible repeat (first | apply Kd.N_alloc | apply Kd.N_drewN | apply Kd.N_drew)); exact aa.out) hb); have n1_ := Aside0.mk (Kd.R_below (by (with_reducible repeat (first | apply Kd.R_alloc | apply Kd.R_drewN | apply Kd.R_drew)); exact ab.out) hb); have n2_ := Aside0.mk (Kd.N_below (by (with_reducible repeat (first | apply Kd.N_alloc | apply Kd.N_drewN | apply Kd.N_drew)); exact ad.out) hb); have n3_ := Aside0.mk (Kd.R_below (by (with_reducible repeat (first | apply Kd.R_alloc | apply Kd.R_drewN | apply Kd.R_drew)); exact ae.out) hb); have n4_ := Aside0.mk (Kd.R_below (by (with_reducible repeat (first | apply Kd.R_alloc | apply Kd.R_drewN | apply Kd.R_drew)); exact ag.out) hb); have n5_ := Aside0.mk (Kd.R_below (by (with_reducible repeat (first | apply Kd.R_alloc | apply Kd.R_drewN | apply Kd.R_drew)); exact ah.out) hb); have n6_ := Aside0.mk (Kd.R_below (by (with_reducible repeat (first | apply Kd.R_alloc | apply Kd.R_drewN | apply Kd.R_drew)); exact al.out) hb); have n7_ := Aside0.mk (Kd.R_below (by (with_reducible repeat (first | apply Kd.R_alloc | apply Kd.R_drewN | apply Kd.R_drew)); exact ak.out) hb); have n8_ := Aside0.mk (Kd.R_below (by (with_reducible repeat (first | apply Kd.R_alloc | apply Kd.R_drewN | apply Kd.R_drew)); exact an.out) hb); have n9_ := Aside0.mk (Kd.R_below (by (with_reducible repeat (first | apply Kd.R_alloc | apply Kd.R_drewN | apply Kd.R_drew)); exact av.out) hb); have ap := Aside0.mk (nb af.out hb); have aq := Aside0.mk (nb ai.out hb); have ay := Aside0.mk (below_step bw hb); clear aa; clear ab; clear ad; clear ae; clear ag; clear ah; clear al; clear ak; clear an; clear av; clear af; clear ai; clear HB; have aa := n0_; have ab := n1_; have ad := n2_; have ae := n3_; have ag := n4_; have ah := n5_; have al := n6_; have ak := n7_; have an := n8_; have av := n9_; have af := ap; have ai := aq; have HB := ay; clear n0_ n1_ n2_ n3_ n4_ n5_ n6_ n7_ n8_ n9_ ap aq ay; (try clear hb)))
 go_ret
 exact ⟨er, bw⟩
theorem carillonlaw19_examples.g_true : carillonlaw19_examples.g 300 = some true := by kernel_rfl
def carillonlaw19_examples.f : Option (Bool) := some true
theorem carillonlaw19_examples.calls (r : Bool) (w : World) (HT_ : TabOk w) (h : carillonlaw19_examples.f = some r) :
  Calls Tryd.prog 8 #[] w fun e w' => e = .returned (.bool r) ∧ Below w.heap.size w w' := by
 obtain rfl := Option.some.inj h
 exact carillonlaw19_examples.calls0 _ true w ⟨rfl⟩ HT_ carillonlaw19_examples.g_true

/-! ### carillonref19_Common: function 13 -/
def carillonref19_Common.l0 : Nat → List ByteArray → List ByteArray → Int → Option (Int)
 | 0, _, _, _ => none
 | k + 1, x0, x1, x5 => if x5 < (x0.length : Int) then (if x5 < (x1.length : Int) then (if 0 ≤ x5 then (if (rdOf ByteArray.empty x0 x5).toList = (rdOf ByteArray.empty x1 x5).toList then (carillonref19_Common.l0 k x0 x1 (wrap64 (x5 + 1))) else (some x5)) else (none)) else (some x5)) else (some x5)
def carillonref19_Common.f (k : Nat) (l0 : List ByteArray) (l1 : List ByteArray) : Option (Int) := carillonref19_Common.l0 k l0 l1 0
theorem carillonref19_Common.mono_l : ∀ k, (∀ y0 y1 y2, LeO (carillonref19_Common.l0 k y0 y1 y2) (carillonref19_Common.l0 (k + 1) y0 y1 y2))
 | 0 => fun _ _ _ r h => by simp [carillonref19_Common.l0] at h
 | k + 1 => by
  have ih0 := carillonref19_Common.mono_l k
  ·intro y0 y1 y2
   unfold carillonref19_Common.l0
   repeat' first
   | (with_reducible exact ih0 _ _ _)
   | (with_reducible exact LeO.refl _)
   | (with_reducible exact LeO.none _)
   | (with_reducible refine LeO.ite ?_ ?_)
   | (with_reducible refine LeO.bind ?_ (fun _ => ?_))
   | exact ih0 _ _ _
   | exact LeO.none _
   | refine LeO.ite ?_ ?_
   | refine LeO.bind ?_ (fun _ => ?_)
theorem carillonref19_Common.mono : ∀ a0 a1 k, LeO (carillonref19_Common.f k a0 a1) (carillonref19_Common.f (k + 1) a0 a1) := by
 intro a0 a1 k
 have ih0 := carillonref19_Common.mono_l k
 unfold carillonref19_Common.f
 repeat' first
   | (with_reducible exact ih0 _ _ _)
   | (with_reducible exact LeO.refl _)
   | (with_reducible exact LeO.none _)
   | (with_reducible refine LeO.ite ?_ ?_)
   | (with_reducible refine LeO.bind ?_ (fun _ => ?_))
   | exact ih0 _ _ _
   | exact LeO.none _
   | refine LeO.ite ?_ ?_
   | refine LeO.bind ?_ (fun _ => ?_)
set_option maxHeartbeats 8000000 in
set_option maxRecDepth 100000 in
theorem carillonref19_Common.calls (k : Nat) (A0 : Option Addr) (c0 : Nat) (l0 : List ByteArray) (A1 : Option Addr) (c1 : Nat) (l1 : List ByteArray) (r : Int) (w : World) (hr0 : Kd.C Kd.string w A0 l0.length l0) (hc0 : l0.length ≤ c0) (hr1 : Kd.C Kd.string w A1 l1.length l1) (hc1 : l1.length ≤ c1) (h : carillonref19_Common.f k l0 l1 = some r) :
  Calls Tryd.prog 13 #[.slice A0 l0.length c0, .slice A1 l1.length c1] w fun e w' => e = .returned (.int .i64 r) ∧ Drawn0 w w' := by
 have HR0 := Aside0.mk hr0
 have HC0 := Aside0.mk hc0
 clear hr0 hc0
 have HR1 := Aside0.mk hr1
 have HC1 := Aside0.mk hc1
 clear hr1 hc1
 have H : (carillonref19_Common.l0 k l0 l1 0) = some r := h
 clear h
 have H' := Aside0.mk H
 clear H
 go_enter Tryd.func13, Tryd.ntmps13
 go_wp2
 go_loopg [5] k (fun kq v5 w' => ∃ (x5_1 : Int), v5 = .int .i64 x5_1 ∧ Aside0 (carillonref19_Common.l0 kq l0 l1 x5_1 = some r) ∧ Aside0 (kq ≤ k) ∧ Drawn0 w w')
 case atStart => exact ⟨(0), (by first | rfl | (simp; done) | (simp [*]; done)), H', ⟨Nat.le_refl _⟩, by repeat (first | exact Drawn0.refl _ | apply Drawn0.step)⟩
 case round =>
  clear H'
  try clear c1
  try clear p2
  obtain ⟨x5_1, rfl, HA, HK1, ⟨m1, rfl⟩⟩ := hrel
  cases gk with
  | zero => exact absurd HA.out (by simp [carillonref19_Common.l0])
  | succ k1 =>
   have H := HA.out
   clear HA
   simp only [carillonref19_Common.l0] at H
   by_cases c3 : x5_1 < (l0.length : Int); rotate_left
   ·rw [if_neg c3] at H
    have c3b0 : decide (x5_1 < (l0.length : Int)) = false := decide_eq_false c3
    clear c3
    obtain rfl := Option.some.inj H
    go_wp2
    repeat (go_quiet (fail); try go_wp2)
    go_ret
    exact ⟨by first | rfl | (simp; done) | (simp [*]; done), by repeat (first | exact Drawn0.refl _ | apply Drawn0.step)⟩
   rw [if_pos c3] at H
   have c3b0 : decide (x5_1 < (l0.length : Int)) = true := decide_eq_true c3
   clear c3
   by_cases c4 : x5_1 < (l1.length : Int); rotate_left
   ·rw [if_neg c4] at H
    have c4b0 : decide (x5_1 < (l1.length : Int)) = false := decide_eq_false c4
    clear c4
    obtain rfl := Option.some.inj H
    go_wp2
    repeat (go_quiet (fail); try go_wp2)
    go_ret
    exact ⟨by first | rfl | (simp; done) | (simp [*]; done), by repeat (first | exact Drawn0.refl _ | apply Drawn0.step)⟩
   rw [if_pos c4] at H
   have c4b0 : decide (x5_1 < (l1.length : Int)) = true := decide_eq_true c4
   clear c4
   by_cases c5 : 0 ≤ x5_1; rotate_left
   ·rw [if_neg c5] at H
    exact absurd H (by simp)
   rw [if_pos c5] at H
   have c5b0 : decide (0 ≤ x5_1) = true := decide_eq_true c5
   clear c5
   by_cases c6 : (rdOf ByteArray.empty l0 x5_1).toList = (rdOf ByteArray.empty l1 x5_1).toList; rotate_left
   ·rw [if_neg c6] at H
    have c6b0 : ((rdOf ByteArray.empty l0 x5_1).toList == (rdOf ByteArray.empty l1 x5_1).toList) = false := beq_eq_false_iff_ne.mpr c6
    have c6b1 : ((rdOf ByteArray.empty l0 x5_1).toList != (rdOf ByteArray.empty l1 x5_1).toList) = true := bne_iff_ne.mpr c6
    obtain rfl := Option.some.inj H
    have p287 : 0 ≤ (x5_1 : Int) := od
    have q287 : x5_1 < (l0.length : Int) := od
    obtain ⟨ad287, e287, hx287_0⟩ := Kd.at_string HR0.out x5_1 p287 q287
    cases e287
    replace p287 := eq_true p287
    replace q287 := eq_true q287
    have p288 : 0 ≤ (x5_1 : Int) := od
    have q288 : x5_1 < (l1.length : Int) := od
    obtain ⟨ad288, e288, hx288_0⟩ := Kd.at_string HR1.out x5_1 p288 q288
    cases e288
    replace p288 := eq_true p288
    replace q288 := eq_true q288
    go_wp2
    repeat (go_quiet (fail); try go_wp2)
    go_ret
    exact ⟨by first | rfl | (simp; done) | (simp [*]; done), by repeat (first | exact Drawn0.refl _ | apply Drawn0.step)⟩
   rw [if_pos c6] at H
   have c6b0 : ((rdOf ByteArray.empty l0 x5_1).toList == (rdOf ByteArray.empty l1 x5_1).toList) = true := beq_iff_eq.mpr c6
   have c6b1 : ((rdOf ByteArray.empty l0 x5_1).toList != (rdOf ByteArray.empty l1 x5_1).toList) = false := bne_eq_false_iff_eq.mpr c6
   clear c6
   have H' := Aside0.mk H
   clear H
   have p287 : 0 ≤ (x5_1 : Int) := od
   have q287 : x5_1 < (l0.length : Int) := od
   obtain ⟨ad287, e287, hx287_0⟩ := Kd.at_string HR0.out x5_1 p287 q287
   cases e287
   replace p287 := eq_true p287
   replace q287 := eq_true q287
   have p288 : 0 ≤ (x5_1 : Int) := od
   have q288 : x5_1 < (l1.length : Int) := od
   obtain ⟨ad288, e288, hx288_0⟩ := Kd.at_string HR1.out x5_1 p288 q288
   cases e288
   replace p288 := eq_true p288
   replace q288 := eq_true q288
   go_wp2
   repeat (go_quiet (fail); try go_wp2)
   go_roundg k1
   case measure => have := HK1.out; omega
   case rel => exact ⟨(wrap64 (x5_1 + 1)), (by first | rfl | (simp; done) | (simp [*]; done)), H', ⟨by have := HK1.out; omega⟩, by repeat (first | exact Drawn0.refl _ | apply Drawn0.step)⟩

/-! ### carillonref19_Prefix: function 15 -/
def carillonref19_Prefix.f (k : Nat) (l0 : List ByteArray) (l1 : List ByteArray) : Option (Bool) := (carillonref19_Common.f k l0 l1).bind fun t289 => (some (t289 == (l0.length : Int)))
theorem carillonref19_Prefix.mono : ∀ a0 a1 k, LeO (carillonref19_Prefix.f k a0 a1) (carillonref19_Prefix.f (k + 1) a0 a1) := by
 intro a0 a1 k
 unfold carillonref19_Prefix.f
 repeat' first
   | (with_reducible exact carillonref19_Common.mono _ _ _)
   | (with_reducible exact LeO.refl _)
   | (with_reducible exact LeO.none _)
   | (with_reducible refine LeO.ite ?_ ?_)
   | (with_reducible refine LeO.bind ?_ (fun _ => ?_))
   | exact carillonref19_Common.mono _ _ _
   | exact LeO.none _
   | refine LeO.ite ?_ ?_
   | refine LeO.bind ?_ (fun _ => ?_)
set_option maxHeartbeats 8000000 in
set_option maxRecDepth 100000 in
theorem carillonref19_Prefix.calls (k : Nat) (A0 : Option Addr) (c0 : Nat) (l0 : List ByteArray) (A1 : Option Addr) (c1 : Nat) (l1 : List ByteArray) (r : Bool) (w : World) (hr0 : Kd.C Kd.string w A0 l0.length l0) (hc0 : l0.length ≤ c0) (hr1 : Kd.C Kd.string w A1 l1.length l1) (hc1 : l1.length ≤ c1) (h : carillonref19_Prefix.f k l0 l1 = some r) :
  Calls Tryd.prog 15 #[.slice A0 l0.length c0, .slice A1 l1.length c1] w fun e w' => e = .returned (.bool r) ∧ Drawn0 w w' := by
 have HR0 := Aside0.mk hr0
 have HC0 := Aside0.mk hc0
 clear hr0 hc0
 have HR1 := Aside0.mk hr1
 have HC1 := Aside0.mk hc1
 clear hr1 hc1
 have H : ((carillonref19_Common.f k l0 l1).bind fun t289 => (some (t289 == (l0.length : Int)))) = some r := h
 clear h
 replace H := Option.bind_eq_some_iff.mp H
 obtain ⟨t289, A30, H⟩ := H
 replace H : (some (t289 == (l0.length : Int))) = some r := H
 have A3 := Aside0.mk A30
 clear A30
 obtain rfl := Option.some.inj H
 go_enter Tryd.func15, Tryd.ntmps15
 go_wp2_with (first | ((with_reducible refine gate_callee (f := 13) rfl ?_); refine goesL_ (some 7) rfl rfl Tryd.func13 (by kernel_rfl) rfl #[.slice A0 l0.length c0, .slice A1 l1.length c1] rfl am ?_; (with_reducible refine (carillonref19_Common.calls k _ _ l0 _ _ l1 t289 _ ?side1 ?side2 ?side3 ?side4 A3.out).mono ?_); (case side1 => repeat (first | exact HR0.out | (with_reducible refine Kd.C_alloc ?_ _) | (with_reducible refine Kd.C_drewN ?_ _) | (with_reducible refine Kd.C_drew ?_))); (case side2 => exact HC0.out); (case side3 => repeat (first | exact HR1.out | (with_reducible refine Kd.C_alloc ?_ _) | (with_reducible refine Kd.C_drewN ?_ _) | (with_reducible refine Kd.C_drew ?_))); (case side4 => exact HC1.out); rintro e w' ⟨rfl, ⟨nd, rfl⟩⟩; refine ⟨_, rfl, ?_⟩))
 go_ret
 exact ⟨by first | rfl | (simp; done) | (simp [*]; done), by repeat (first | exact Drawn0.refl _ | apply Drawn0.step)⟩

/-! ### carillonref19_Longest: function 9 -/
mutual
def carillonref19_Longest.l0 : Nat → List (List ByteArray) → Int → Int → Option (List ByteArray × Int)
 | 0, _, _, _ => none
 | k + 1, x0, x4, x5 => if x5 < (x0.length : Int) then (carillonref19_Longest.l1 k x0 x4 x5 0) else (if 0 ≤ x4 then (if x4 < (x0.length : Int) then (some (rd_L1 x0 x4, 0)) else (none)) else (none))
def carillonref19_Longest.l1 : Nat → List (List ByteArray) → Int → Int → Int → Option (List ByteArray × Int)
 | 0, _, _, _, _ => none
 | k + 1, x0, x4, x5, x6 => if x6 < x5 then (if 0 ≤ x5 then (if x5 < (x0.length : Int) then (if 0 ≤ x6 then (if x6 < (x0.length : Int) then ((carillonref19_Prefix.f k (rd_L1 x0 x5) (rd_L1 x0 x6)).bind fun t292 => ((carillonref19_Prefix.f k (rd_L1 x0 x6) (rd_L1 x0 x5)).bind fun t295 => (if t292 = true then (carillonref19_Longest.l1 k x0 x4 x5 (wrap64 (x6 + 1))) else (if t295 = true then (carillonref19_Longest.l1 k x0 x4 x5 (wrap64 (x6 + 1))) else (some (([] : List ByteArray), 11)))))) else (none)) else (none)) else (none)) else (none)) else (if 0 ≤ x5 then (if x5 < (x0.length : Int) then (if 0 ≤ x4 then (if x4 < (x0.length : Int) then (if ((rd_L1 x0 x5).length : Int) > ((rd_L1 x0 x4).length : Int) then (carillonref19_Longest.l0 k x0 x5 (wrap64 (x5 + 1))) else (carillonref19_Longest.l0 k x0 x4 (wrap64 (x5 + 1)))) else (none)) else (none)) else (none)) else (none))
end
def carillonref19_Longest.f (k : Nat) (l0 : List (List ByteArray)) : Option (List ByteArray × Int) := if (l0.length : Int) = 0 then (some (([] : List ByteArray), 1)) else (carillonref19_Longest.l0 k l0 0 0)
theorem carillonref19_Longest.mono_l : ∀ k, (∀ y0 y1 y2, LeO (carillonref19_Longest.l0 k y0 y1 y2) (carillonref19_Longest.l0 (k + 1) y0 y1 y2)) ∧ (∀ y0 y1 y2 y3, LeO (carillonref19_Longest.l1 k y0 y1 y2 y3) (carillonref19_Longest.l1 (k + 1) y0 y1 y2 y3))
 | 0 => ⟨fun _ _ _ r h => by simp [carillonref19_Longest.l0] at h, fun _ _ _ _ r h => by simp [carillonref19_Longest.l1] at h⟩
 | k + 1 => by
  obtain ⟨ih0, ih1⟩ := carillonref19_Longest.mono_l k
  refine ⟨?_, ?_⟩
  ·intro y0 y1 y2
   unfold carillonref19_Longest.l0
   repeat' first
   | (with_reducible exact ih0 _ _ _)
   | (with_reducible exact ih1 _ _ _ _)
   | (with_reducible exact carillonref19_Prefix.mono _ _ _)
   | (with_reducible exact LeO.refl _)
   | (with_reducible exact LeO.none _)
   | (with_reducible refine LeO.ite ?_ ?_)
   | (with_reducible refine LeO.bind ?_ (fun _ => ?_))
   | exact ih0 _ _ _
   | exact ih1 _ _ _ _
   | exact carillonref19_Prefix.mono _ _ _
   | exact LeO.none _
   | refine LeO.ite ?_ ?_
   | refine LeO.bind ?_ (fun _ => ?_)
  ·intro y0 y1 y2 y3
   unfold carillonref19_Longest.l1
   repeat' first
   | (with_reducible exact ih0 _ _ _)
   | (with_reducible exact ih1 _ _ _ _)
   | (with_reducible exact carillonref19_Prefix.mono _ _ _)
   | (with_reducible exact LeO.refl _)
   | (with_reducible exact LeO.none _)
   | (with_reducible refine LeO.ite ?_ ?_)
   | (with_reducible refine LeO.bind ?_ (fun _ => ?_))
   | exact ih0 _ _ _
   | exact ih1 _ _ _ _
   | exact carillonref19_Prefix.mono _ _ _
   | exact LeO.none _
   | refine LeO.ite ?_ ?_
   | refine LeO.bind ?_ (fun _ => ?_)
theorem carillonref19_Longest.mono : ∀ a0 k, LeO (carillonref19_Longest.f k a0) (carillonref19_Longest.f (k + 1) a0) := by
 intro a0 k
 obtain ⟨ih0, ih1⟩ := carillonref19_Longest.mono_l k
 unfold carillonref19_Longest.f
 repeat' first
   | (with_reducible exact ih0 _ _ _)
   | (with_reducible exact ih1 _ _ _ _)
   | (with_reducible exact carillonref19_Prefix.mono _ _ _)
   | (with_reducible exact LeO.refl _)
   | (with_reducible exact LeO.none _)
   | (with_reducible refine LeO.ite ?_ ?_)
   | (with_reducible refine LeO.bind ?_ (fun _ => ?_))
   | exact ih0 _ _ _
   | exact ih1 _ _ _ _
   | exact carillonref19_Prefix.mono _ _ _
   | exact LeO.none _
   | refine LeO.ite ?_ ?_
   | refine LeO.bind ?_ (fun _ => ?_)
set_option maxHeartbeats 8000000 in
set_option maxRecDepth 100000 in
theorem carillonref19_Longest.calls (k : Nat) (P0_ : Nat → Prop) (A0 : Option Addr) (c0 : Nat) (l0 : List (List ByteArray)) (r1 : List ByteArray) (r2 : Int) (w : World) (hs0 : Kd.V (Kd.slice 9 Kd.string) 23 w w.heap.size (fun k_ => P0_ k_) (.slice A0 l0.length c0) l0) (h : carillonref19_Longest.f k l0 = some (r1, r2)) :
  Calls Tryd.prog 9 #[.slice A0 l0.length c0] w fun e w' => ∃ v0_ : Value, e = .returned (.tuple #[v0_, .int .i64 r2]) ∧ Kd.V Kd.string 9 w' w.heap.size (fun k_ => (P0_ k_ ∨ w.heap.size ≤ k_)) v0_ r1 ∧ Below w.heap.size w w' := by
 have HO0 := Aside0.mk (show Kd.V (Kd.slice 9 Kd.string) 23 w w.heap.size (fun k_ => (P0_ k_ ∨ w.heap.size ≤ k_)) (.slice A0 l0.length c0) l0 from Kd.V_mono hs0 (fun k_ hk => .inl hk))
 have HB := Aside0.mk (Below.refl w.heap.size w)
 have H : (if (l0.length : Int) = 0 then (some (([] : List ByteArray), 1)) else (carillonref19_Longest.l0 k l0 0 0)) = some (r1, r2) := h
 clear h
 by_cases c2 : (l0.length : Int) = 0
 ·rw [if_pos c2] at H
  have ao : ((l0.length : Int) == 0) = true := beq_iff_eq.mpr c2
  have ap : ((l0.length : Int) != 0) = false := bne_eq_false_iff_eq.mpr c2
  clear c2
  simp only [Option.some.injEq, Prod.mk.injEq] at H
  obtain ⟨rfl, rfl⟩ := H
  go_enter Tryd.func9, Tryd.ntmps9
  go_wp2
  go_ret2
  exact ⟨_, er, Kd.V_mono (Kd.V_nil _ _ _ _ _) (fun k_ hk => by first | exact ⟨(.inr (hk.1)), hk.2⟩ | exact (.inr (hk))), bw⟩
 rw [if_neg c2] at H
 have ao : ((l0.length : Int) == 0) = false := beq_eq_false_iff_ne.mpr c2
 have ap : ((l0.length : Int) != 0) = true := bne_iff_ne.mpr c2
 have aq : ¬ (l0 = []) := fun h_ => c2 (by rw [h_]; rfl)
 have H' := Aside0.mk H
 clear H
 go_enter Tryd.func9, Tryd.ntmps9
 go_wp2
 go_loopg [4, 5] k (fun kq v4 v5 w' => ∃ (x4_1 : Int) (x5_1 : Int), v4 = .int .i64 x4_1 ∧ v5 = .int .i64 x5_1 ∧ Aside0 (carillonref19_Longest.l0 kq l0 x4_1 x5_1 = some (r1, r2)) ∧ Aside0 (kq ≤ k) ∧ Aside0 (Kd.V (Kd.slice 9 Kd.string) 23 w' w.heap.size (fun k_ => (P0_ k_ ∨ w.heap.size ≤ k_)) (.slice A0 l0.length c0) l0) ∧ Aside0 (Below w.heap.size w w'))
 case atStart => exact ⟨(0), (0), (by first | rfl | (simp; done) | (simp [*]; done)), (by first | rfl | (simp; done) | (simp [*]; done)), H', ⟨Nat.le_refl _⟩, ⟨by (with_reducible repeat (first | apply Kd.V_alloc | apply Kd.V_drewN | apply Kd.V_drew)); exact HO0.out⟩, ⟨bw⟩⟩
 case round =>
  clear H'
  try clear c2
  try clear ao
  try clear ap
  try clear aq
  try clear p2
  obtain ⟨x4_1, x5_1, rfl, rfl, HA, HK1, aa, HB⟩ := hrel
  cases gk with
  | zero => exact absurd HA.out (by simp [carillonref19_Longest.l0])
  | succ k1 =>
   have H := HA.out
   clear HA
   simp only [carillonref19_Longest.l0] at H
   by_cases c3 : x5_1 < (l0.length : Int); rotate_left
   ·rw [if_neg c3] at H
    have ar : decide (x5_1 < (l0.length : Int)) = false := decide_eq_false c3
    clear c3
    by_cases c18 : 0 ≤ x4_1; rotate_left
    ·rw [if_neg c18] at H
     exact absurd H (by simp)
    rw [if_pos c18] at H
    have c18b0 : decide (0 ≤ x4_1) = true := decide_eq_true c18
    clear c18
    by_cases c19 : x4_1 < (l0.length : Int); rotate_left
    ·rw [if_neg c19] at H
     exact absurd H (by simp)
    rw [if_pos c19] at H
    have c19b0 : decide (x4_1 < (l0.length : Int)) = true := decide_eq_true c19
    clear c19
    simp only [Option.some.injEq, Prod.mk.injEq] at H
    obtain ⟨rfl, rfl⟩ := H
    have p298 : 0 ≤ (x4_1 : Int) := od
    have q298 : x4_1 < (l0.length : Int) := od
    obtain ⟨ad298, A298_0, c298_0, e298, hx298_0, hl298_0, hi298_0⟩ := at_L1 (Kd.V_reads' aa.out).2.2 x4_1 p298 q298
    cases e298
    obtain ⟨ce298, hce298, hMe298, hcc298⟩ := Kd.V_get aa.out [] x4_1 p298 (by first | exact q298 | exact od | (have e_ := (Kd.V_reads' aa.out).1; omega))
    obtain ⟨ua298_0, uc298_0, rfl, ul298_0, ge298_0⟩ := Kd.FK_slice_open hMe298
    have hv298_0 := hcc298 0 _ rfl
    rw [Nat.add_zero, show ((Kd.slice 9 Kd.string)).sz = 1 from rfl, Nat.mul_one] at hv298_0
    replace hv298_0 := Option.some.inj (hv298_0.symm.trans hx298_0)
    injection hv298_0 with hva_ hvn_ hvc_
    rw [hva_] at ge298_0
    rw [hvc_] at ul298_0
    have HL298_0 := Aside0.mk (show Kd.V Kd.string 9 _ w.heap.size _ _ (rd_L1 l0 x4_1) from Kd.V_mk ul298_0 ge298_0)
    clear hva_ hvn_ hvc_ ge298_0 ul298_0
    clear hcc298 hce298
    have HR298_0 := Aside0.mk hi298_0
    have HC298_0 := Aside0.mk hl298_0
    clear hi298_0 hl298_0
    replace p298 := eq_true p298
    replace q298 := eq_true q298
    go_wp2
    go_ret2
    exact ⟨_, er, by (with_reducible repeat (first | apply Kd.V_alloc | apply Kd.V_drewN | apply Kd.V_drew)); exact HL298_0.out, bw⟩
   rw [if_pos c3] at H
   have ar : decide (x5_1 < (l0.length : Int)) = true := decide_eq_true c3
   clear c3
   have H' := Aside0.mk H
   clear H
   go_wp2
   go_loopg [6] k1 (fun kq v6 w' => ∃ (x6_2 : Int), v6 = .int .i64 x6_2 ∧ Aside0 (carillonref19_Longest.l1 kq l0 x4_1 x5_1 x6_2 = some (r1, r2)) ∧ Aside0 (kq ≤ k1) ∧ Aside0 (Kd.V (Kd.slice 9 Kd.string) 23 w' w.heap.size (fun k_ => (P0_ k_ ∨ w.heap.size ≤ k_)) (.slice A0 l0.length c0) l0) ∧ Aside0 (Below w.heap.size w w'))
   case atStart => exact ⟨(0), (by first | rfl | (simp; done) | (simp [*]; done)), H', ⟨Nat.le_refl _⟩, ⟨by (with_reducible repeat (first | apply Kd.V_alloc | apply Kd.V_drewN | apply Kd.V_drew)); exact aa.out⟩, ⟨bw⟩⟩
   case round =>
    clear H'
    try clear c2
    try clear ao
    try clear ap
    try clear aq
    try clear p2
    try clear c3
    try clear ar
    try clear p2
    obtain ⟨x6_2, rfl, HA, HK2, aa, HB⟩ := hrel
    cases gk with
    | zero => exact absurd HA.out (by simp [carillonref19_Longest.l1])
    | succ k2 =>
     have H := HA.out
     clear HA
     simp only [carillonref19_Longest.l1] at H
     by_cases c4 : x6_2 < x5_1; rotate_left
     ·rw [if_neg c4] at H
      have c4b0 : decide (x6_2 < x5_1) = false := decide_eq_false c4
      clear c4
      by_cases c13 : 0 ≤ x5_1; rotate_left
      ·rw [if_neg c13] at H
       exact absurd H (by simp)
      rw [if_pos c13] at H
      have c13b0 : decide (0 ≤ x5_1) = true := decide_eq_true c13
      clear c13
      by_cases c14 : x5_1 < (l0.length : Int); rotate_left
      ·rw [if_neg c14] at H
       exact absurd H (by simp)
      rw [if_pos c14] at H
      have c14b0 : decide (x5_1 < (l0.length : Int)) = true := decide_eq_true c14
      clear c14
      by_cases c15 : 0 ≤ x4_1; rotate_left
      ·rw [if_neg c15] at H
       exact absurd H (by simp)
      rw [if_pos c15] at H
      have c15b0 : decide (0 ≤ x4_1) = true := decide_eq_true c15
      clear c15
      by_cases c16 : x4_1 < (l0.length : Int); rotate_left
      ·rw [if_neg c16] at H
       exact absurd H (by simp)
      rw [if_pos c16] at H
      have c16b0 : decide (x4_1 < (l0.length : Int)) = true := decide_eq_true c16
      clear c16
      by_cases c17 : ((rd_L1 l0 x5_1).length : Int) > ((rd_L1 l0 x4_1).length : Int); rotate_left
      ·rw [if_neg c17] at H
       have c17b0 : decide (((rd_L1 l0 x4_1).length : Int) < ((rd_L1 l0 x5_1).length : Int)) = false := decide_eq_false c17
       have c17b1 : decide ((rd_L1 l0 x4_1).length < (rd_L1 l0 x5_1).length) = false := decide_eq_false (fun h => c17 (Int.ofNat_lt.mpr h))
       clear c17
       have H' := Aside0.mk H
       clear H
       have p296 : 0 ≤ (x5_1 : Int) := od
       have q296 : x5_1 < (l0.length : Int) := od
       obtain ⟨al, A296_0, c296_0, e296, ai, hl296_0, hi296_0⟩ := at_L1 (Kd.V_reads' aa.out).2.2 x5_1 p296 q296
       cases e296
       obtain ⟨ce296, hce296, hMe296, hcc296⟩ := Kd.V_get aa.out [] x5_1 p296 (by first | exact q296 | exact od | (have e_ := (Kd.V_reads' aa.out).1; omega))
       obtain ⟨ua296_0, uc296_0, rfl, ul296_0, ge296_0⟩ := Kd.FK_slice_open hMe296
       have hv296_0 := hcc296 0 _ rfl
       rw [Nat.add_zero, show ((Kd.slice 9 Kd.string)).sz = 1 from rfl, Nat.mul_one] at hv296_0
       replace hv296_0 := Option.some.inj (hv296_0.symm.trans ai)
       injection hv296_0 with hva_ hvn_ hvc_
       rw [hva_] at ge296_0
       rw [hvc_] at ul296_0
       have HL296_0 := Aside0.mk (show Kd.V Kd.string 9 _ w.heap.size _ _ (rd_L1 l0 x5_1) from Kd.V_mk ul296_0 ge296_0)
       clear hva_ hvn_ hvc_ ge296_0 ul296_0
       clear hcc296 hce296
       have HR296_0 := Aside0.mk hi296_0
       have HC296_0 := Aside0.mk hl296_0
       clear hi296_0 hl296_0
       replace p296 := eq_true p296
       replace q296 := eq_true q296
       have p297 : 0 ≤ (x4_1 : Int) := od
       have q297 : x4_1 < (l0.length : Int) := od
       obtain ⟨an, A297_0, c297_0, e297, aj, hl297_0, hi297_0⟩ := at_L1 (Kd.V_reads' aa.out).2.2 x4_1 p297 q297
       obtain rfl : al = an := (by injection e297)
       obtain ⟨ce297, hce297, hMe297, hcc297⟩ := Kd.V_get aa.out [] x4_1 p297 (by first | exact q297 | exact od | (have e_ := (Kd.V_reads' aa.out).1; omega))
       obtain ⟨ua297_0, uc297_0, rfl, ul297_0, ge297_0⟩ := Kd.FK_slice_open hMe297
       have hv297_0 := hcc297 0 _ rfl
       rw [Nat.add_zero, show ((Kd.slice 9 Kd.string)).sz = 1 from rfl, Nat.mul_one] at hv297_0
       replace hv297_0 := Option.some.inj (hv297_0.symm.trans aj)
       injection hv297_0 with hva_ hvn_ hvc_
       rw [hva_] at ge297_0
       rw [hvc_] at ul297_0
       have HL297_0 := Aside0.mk (show Kd.V Kd.string 9 _ w.heap.size _ _ (rd_L1 l0 x4_1) from Kd.V_mk ul297_0 ge297_0)
       clear hva_ hvn_ hvc_ ge297_0 ul297_0
       clear hcc297 hce297
       have HR297_0 := Aside0.mk hi297_0
       have HC297_0 := Aside0.mk hl297_0
       clear hi297_0 hl297_0
       replace p297 := eq_true p297
       replace q297 := eq_true q297
       go_wp2
       repeat (go_quiet (fail); try go_wp2)
       go_roundg k2
       case measure => have := HK1.out; have := HK2.out; omega
       case rel => exact ⟨(x4_1), (wrap64 (x5_1 + 1)), (by first | rfl | (simp; done) | (simp [*]; done)), (by first | rfl | (simp; done) | (simp [*]; done)), H', ⟨by have := HK1.out; have := HK2.out; omega⟩, ⟨by (with_reducible repeat (first | apply Kd.V_alloc | apply Kd.V_drewN | apply Kd.V_drew)); exact aa.out⟩, ⟨bw⟩⟩
      rw [if_pos c17] at H
      have c17b0 : decide (((rd_L1 l0 x4_1).length : Int) < ((rd_L1 l0 x5_1).length : Int)) = true := decide_eq_true c17
      have c17b1 : decide ((rd_L1 l0 x4_1).length < (rd_L1 l0 x5_1).length) = true := decide_eq_true (Int.ofNat_lt.mp c17)
      clear c17
      have H' := Aside0.mk H
      clear H
      have p296 : 0 ≤ (x5_1 : Int) := od
      have q296 : x5_1 < (l0.length : Int) := od
      obtain ⟨al, A296_0, c296_0, e296, ai, hl296_0, hi296_0⟩ := at_L1 (Kd.V_reads' aa.out).2.2 x5_1 p296 q296
      cases e296
      obtain ⟨ce296, hce296, hMe296, hcc296⟩ := Kd.V_get aa.out [] x5_1 p296 (by first | exact q296 | exact od | (have e_ := (Kd.V_reads' aa.out).1; omega))
      obtain ⟨ua296_0, uc296_0, rfl, ul296_0, ge296_0⟩ := Kd.FK_slice_open hMe296
      have hv296_0 := hcc296 0 _ rfl
      rw [Nat.add_zero, show ((Kd.slice 9 Kd.string)).sz = 1 from rfl, Nat.mul_one] at hv296_0
      replace hv296_0 := Option.some.inj (hv296_0.symm.trans ai)
      injection hv296_0 with hva_ hvn_ hvc_
      rw [hva_] at ge296_0
      rw [hvc_] at ul296_0
      have HL296_0 := Aside0.mk (show Kd.V Kd.string 9 _ w.heap.size _ _ (rd_L1 l0 x5_1) from Kd.V_mk ul296_0 ge296_0)
      clear hva_ hvn_ hvc_ ge296_0 ul296_0
      clear hcc296 hce296
      have HR296_0 := Aside0.mk hi296_0
      have HC296_0 := Aside0.mk hl296_0
      clear hi296_0 hl296_0
      replace p296 := eq_true p296
      replace q296 := eq_true q296
      have p297 : 0 ≤ (x4_1 : Int) := od
      have q297 : x4_1 < (l0.length : Int) := od
      obtain ⟨an, A297_0, c297_0, e297, aj, hl297_0, hi297_0⟩ := at_L1 (Kd.V_reads' aa.out).2.2 x4_1 p297 q297
      obtain rfl : al = an := (by injection e297)
      obtain ⟨ce297, hce297, hMe297, hcc297⟩ := Kd.V_get aa.out [] x4_1 p297 (by first | exact q297 | exact od | (have e_ := (Kd.V_reads' aa.out).1; omega))
      obtain ⟨ua297_0, uc297_0, rfl, ul297_0, ge297_0⟩ := Kd.FK_slice_open hMe297
      have hv297_0 := hcc297 0 _ rfl
      rw [Nat.add_zero, show ((Kd.slice 9 Kd.string)).sz = 1 from rfl, Nat.mul_one] at hv297_0
      replace hv297_0 := Option.some.inj (hv297_0.symm.trans aj)
      injection hv297_0 with hva_ hvn_ hvc_
      rw [hva_] at ge297_0
      rw [hvc_] at ul297_0
      have HL297_0 := Aside0.mk (show Kd.V Kd.string 9 _ w.heap.size _ _ (rd_L1 l0 x4_1) from Kd.V_mk ul297_0 ge297_0)
      clear hva_ hvn_ hvc_ ge297_0 ul297_0
      clear hcc297 hce297
      have HR297_0 := Aside0.mk hi297_0
      have HC297_0 := Aside0.mk hl297_0
      clear hi297_0 hl297_0
      replace p297 := eq_true p297
      replace q297 := eq_true q297
      go_wp2
      repeat (go_quiet (fail); try go_wp2)
      go_roundg k2
      case measure => have := HK1.out; have := HK2.out; omega
      case rel => exact ⟨(x5_1), (wrap64 (x5_1 + 1)), (by first | rfl | (simp; done) | (simp [*]; done)), (by first | rfl | (simp; done) | (simp [*]; done)), H', ⟨by have := HK1.out; have := HK2.out; omega⟩, ⟨by (with_reducible repeat (first | apply Kd.V_alloc | apply Kd.V_drewN | apply Kd.V_drew)); exact aa.out⟩, ⟨bw⟩⟩
     rw [if_pos c4] at H
     have c4b0 : decide (x6_2 < x5_1) = true := decide_eq_true c4
     clear c4
     by_cases c5 : 0 ≤ x5_1; rotate_left
     ·rw [if_neg c5] at H
      exact absurd H (by simp)
     rw [if_pos c5] at H
     have c5b0 : decide (0 ≤ x5_1) = true := decide_eq_true c5
     clear c5
     by_cases c6 : x5_1 < (l0.length : Int); rotate_left
     ·rw [if_neg c6] at H
      exact absurd H (by simp)
     rw [if_pos c6] at H
     have c6b0 : decide (x5_1 < (l0.length : Int)) = true := decide_eq_true c6
     clear c6
     by_cases c7 : 0 ≤ x6_2; rotate_left
     ·rw [if_neg c7] at H
      exact absurd H (by simp)
     rw [if_pos c7] at H
     have c7b0 : decide (0 ≤ x6_2) = true := decide_eq_true c7
     clear c7
     by_cases c8 : x6_2 < (l0.length : Int); rotate_left
     ·rw [if_neg c8] at H
      exact absurd H (by simp)
     rw [if_pos c8] at H
     have c8b0 : decide (x6_2 < (l0.length : Int)) = true := decide_eq_true c8
     clear c8
     replace H := Option.bind_eq_some_iff.mp H
     obtain ⟨t292, A90, H⟩ := H
     replace H : ((carillonref19_Prefix.f k2 (rd_L1 l0 x6_2) (rd_L1 l0 x5_1)).bind fun t295 => (if t292 = true then (carillonref19_Longest.l1 k2 l0 x4_1 x5_1 (wrap64 (x6_2 + 1))) else (if t295 = true then (carillonref19_Longest.l1 k2 l0 x4_1 x5_1 (wrap64 (x6_2 + 1))) else (some (([] : List ByteArray), 11))))) = some (r1, r2) := H
     have A9 := Aside0.mk A90
     clear A90
     replace H := Option.bind_eq_some_iff.mp H
     obtain ⟨t295, A100, H⟩ := H
     replace H : (if t292 = true then (carillonref19_Longest.l1 k2 l0 x4_1 x5_1 (wrap64 (x6_2 + 1))) else (if t295 = true then (carillonref19_Longest.l1 k2 l0 x4_1 x5_1 (wrap64 (x6_2 + 1))) else (some (([] : List ByteArray), 11)))) = some (r1, r2) := H
     have A10 := Aside0.mk A100
     clear A100
     by_cases c11 : t292 = true
     ·subst c11
      have H1 : (carillonref19_Longest.l1 k2 l0 x4_1 x5_1 (wrap64 (x6_2 + 1))) = some (r1, r2) := by rw [if_pos rfl] at H; exact H
      clear H
      have H := H1
      clear H1
      have H' := Aside0.mk H
      clear H
      have p290 : 0 ≤ (x5_1 : Int) := od
      have q290 : x5_1 < (l0.length : Int) := od
      obtain ⟨af, A290_0, c290_0, e290, ad, hl290_0, hi290_0⟩ := at_L1 (Kd.V_reads' aa.out).2.2 x5_1 p290 q290
      cases e290
      obtain ⟨ce290, hce290, hMe290, hcc290⟩ := Kd.V_get aa.out [] x5_1 p290 (by first | exact q290 | exact od | (have e_ := (Kd.V_reads' aa.out).1; omega))
      obtain ⟨ua290_0, uc290_0, rfl, ul290_0, ge290_0⟩ := Kd.FK_slice_open hMe290
      have hv290_0 := hcc290 0 _ rfl
      rw [Nat.add_zero, show ((Kd.slice 9 Kd.string)).sz = 1 from rfl, Nat.mul_one] at hv290_0
      replace hv290_0 := Option.some.inj (hv290_0.symm.trans ad)
      injection hv290_0 with hva_ hvn_ hvc_
      rw [hva_] at ge290_0
      rw [hvc_] at ul290_0
      have HL290_0 := Aside0.mk (show Kd.V Kd.string 9 _ w.heap.size _ _ (rd_L1 l0 x5_1) from Kd.V_mk ul290_0 ge290_0)
      clear hva_ hvn_ hvc_ ge290_0 ul290_0
      clear hcc290 hce290
      have HR290_0 := Aside0.mk hi290_0
      have HC290_0 := Aside0.mk hl290_0
      clear hi290_0 hl290_0
      replace p290 := eq_true p290
      replace q290 := eq_true q290
      have p291 : 0 ≤ (x6_2 : Int) := od
      have q291 : x6_2 < (l0.length : Int) := od
      obtain ⟨ak, A291_0, c291_0, e291, ae, hl291_0, hi291_0⟩ := at_L1 (Kd.V_reads' aa.out).2.2 x6_2 p291 q291
      obtain rfl : af = ak := (by injection e291)
      obtain ⟨ce291, hce291, hMe291, hcc291⟩ := Kd.V_get aa.out [] x6_2 p291 (by first | exact q291 | exact od | (have e_ := (Kd.V_reads' aa.out).1; omega))
      obtain ⟨ua291_0, uc291_0, rfl, ul291_0, ge291_0⟩ := Kd.FK_slice_open hMe291
      have hv291_0 := hcc291 0 _ rfl
      rw [Nat.add_zero, show ((Kd.slice 9 Kd.string)).sz = 1 from rfl, Nat.mul_one] at hv291_0
      replace hv291_0 := Option.some.inj (hv291_0.symm.trans ae)
      injection hv291_0 with hva_ hvn_ hvc_
      rw [hva_] at ge291_0
      rw [hvc_] at ul291_0
      have HL291_0 := Aside0.mk (show Kd.V Kd.string 9 _ w.heap.size _ _ (rd_L1 l0 x6_2) from Kd.V_mk ul291_0 ge291_0)
      clear hva_ hvn_ hvc_ ge291_0 ul291_0
      clear hcc291 hce291
      have HR291_0 := Aside0.mk hi291_0
      have HC291_0 := Aside0.mk hl291_0
      clear hi291_0 hl291_0
      replace p291 := eq_true p291
      replace q291 := eq_true q291
      go_wp2_with (first | (go_at_call 15; (with_reducible refine (carillonref19_Prefix.calls k2 _ _ (rd_L1 l0 x5_1) _ _ (rd_L1 l0 x6_2) true _ ?side1 ?side2 ?side3 ?side4 A9.out).mono ?_); (case side1 => repeat (first | exact (by repeat (first | (with_reducible exact HR290_0.out) | (with_reducible refine Kd.C_alloc ?_ _) | (with_reducible refine Kd.C_drewN ?_ _) | (with_reducible refine Kd.C_drew ?_) | exact HR290_0.out)) | (with_reducible refine Kd.C_alloc ?_ _) | (with_reducible refine Kd.C_drewN ?_ _) | (with_reducible refine Kd.C_drew ?_))); (case side2 => exact HC290_0.out); (case side3 => repeat (first | exact (by repeat (first | (with_reducible exact HR291_0.out) | (with_reducible refine Kd.C_alloc ?_ _) | (with_reducible refine Kd.C_drewN ?_ _) | (with_reducible refine Kd.C_drew ?_) | exact HR291_0.out)) | (with_reducible refine Kd.C_alloc ?_ _) | (with_reducible refine Kd.C_drewN ?_ _) | (with_reducible refine Kd.C_drew ?_))); (case side4 => exact HC291_0.out); rintro e w' ⟨rfl, ⟨nd, rfl⟩⟩; (try first | exact ⟨rfl, _, World.drewN_drewN _ _ _⟩ | exact ⟨rfl, _, Eq.trans (World.drewN_drewN _ _ _) (congrArg (World.drewN _) (Nat.add_assoc _ _ _))⟩); have p293 : 0 ≤ (x6_2 : Int) := od; have q293 : x6_2 < (l0.length : Int) := od; obtain ⟨ag, A293_0, c293_0, e293, ab, hl293_0, hi293_0⟩ := at_L1 (Kd.V_reads' aa.out).2.2 x6_2 p293 q293; obtain rfl : af = ag := (by injection e293); obtain ⟨ce293, hce293, hMe293, hcc293⟩ := Kd.V_get aa.out [] x6_2 p293 (by first | exact q293 | exact od | (have e_ := (Kd.V_reads' aa.out).1; omega)); obtain ⟨ua293_0, uc293_0, rfl, ul293_0, ge293_0⟩ := Kd.FK_slice_open hMe293; have hv293_0 := hcc293 0 _ rfl; rw [Nat.add_zero, show ((Kd.slice 9 Kd.string)).sz = 1 from rfl, Nat.mul_one] at hv293_0; replace hv293_0 := Option.some.inj (hv293_0.symm.trans ab); injection hv293_0 with hva_ hvn_ hvc_; rw [hva_] at ge293_0; rw [hvc_] at ul293_0; have HL293_0 := Aside0.mk (show Kd.V Kd.string 9 _ w.heap.size _ _ (rd_L1 l0 x6_2) from Kd.V_mk ul293_0 ge293_0); clear hva_ hvn_ hvc_ ge293_0 ul293_0; clear hcc293 hce293; have HR293_0 := Aside0.mk hi293_0; have HC293_0 := Aside0.mk hl293_0; clear hi293_0 hl293_0; replace p293 := eq_true p293; replace q293 := eq_true q293; have ea_ := Option.some.inj (ae.symm.trans ab); injection ea_ with ea_ en_ ec_; subst ea_; subst ec_; clear en_; have p294 : 0 ≤ (x5_1 : Int) := od; have q294 : x5_1 < (l0.length : Int) := od; obtain ⟨ah, A294_0, c294_0, e294, ac, hl294_0, hi294_0⟩ := at_L1 (Kd.V_reads' aa.out).2.2 x5_1 p294 q294; obtain rfl : af = ah := (by injection e294); obtain ⟨ce294, hce294, hMe294, hcc294⟩ := Kd.V_get aa.out [] x5_1 p294 (by first | exact q294 | exact od | (have e_ := (Kd.V_reads' aa.out).1; omega)); obtain ⟨ua294_0, uc294_0, rfl, ul294_0, ge294_0⟩ := Kd.FK_slice_open hMe294; have hv294_0 := hcc294 0 _ rfl; rw [Nat.add_zero, show ((Kd.slice 9 Kd.string)).sz = 1 from rfl, Nat.mul_one] at hv294_0; replace hv294_0 := Option.some.inj (hv294_0.symm.trans ac); injection hv294_0 with hva_ hvn_ hvc_; rw [hva_] at ge294_0; rw [hvc_] at ul294_0; have HL294_0 := Aside0.mk (show Kd.V Kd.string 9 _ w.heap.size _ _ (rd_L1 l0 x5_1) from Kd.V_mk ul294_0 ge294_0); clear hva_ hvn_ hvc_ ge294_0 ul294_0; clear hcc294 hce294; have HR294_0 := Aside0.mk hi294_0; have HC294_0 := Aside0.mk hl294_0; clear hi294_0 hl294_0; replace p294 := eq_true p294; replace q294 := eq_true q294; have ea_ := Option.some.inj (ad.symm.trans ac); injection ea_ with ea_ en_ ec_; subst ea_; subst ec_; clear en_) | (go_at_call 15; (with_reducible refine (carillonref19_Prefix.calls k2 _ _ (rd_L1 l0 x6_2) _ _ (rd_L1 l0 x5_1) t295 _ ?side1 ?side2 ?side3 ?side4 A10.out).mono ?_); (case side1 => repeat (first | exact (by repeat (first | (with_reducible exact HR293_0.out) | (with_reducible refine Kd.C_alloc ?_ _) | (with_reducible refine Kd.C_drewN ?_ _) | (with_reducible refine Kd.C_drew ?_) | exact HR293_0.out)) | (with_reducible refine Kd.C_alloc ?_ _) | (with_reducible refine Kd.C_drewN ?_ _) | (with_reducible refine Kd.C_drew ?_))); (case side2 => exact HC293_0.out); (case side3 => repeat (first | exact (by repeat (first | (with_reducible exact HR294_0.out) | (with_reducible refine Kd.C_alloc ?_ _) | (with_reducible refine Kd.C_drewN ?_ _) | (with_reducible refine Kd.C_drew ?_) | exact HR294_0.out)) | (with_reducible refine Kd.C_alloc ?_ _) | (with_reducible refine Kd.C_drewN ?_ _) | (with_reducible refine Kd.C_drew ?_))); (case side4 => exact HC294_0.out); rintro e w' ⟨rfl, ⟨nd, rfl⟩⟩; (try first | exact ⟨rfl, _, World.drewN_drewN _ _ _⟩ | exact ⟨rfl, _, Eq.trans (World.drewN_drewN _ _ _) (congrArg (World.drewN _) (Nat.add_assoc _ _ _))⟩)))
      repeat (go_quiet (first | (go_at_call 15; (with_reducible refine (carillonref19_Prefix.calls k2 _ _ (rd_L1 l0 x5_1) _ _ (rd_L1 l0 x6_2) true _ ?side1 ?side2 ?side3 ?side4 A9.out).mono ?_); (case side1 => repeat (first | exact (by repeat (first | (with_reducible exact HR290_0.out) | (with_reducible refine Kd.C_alloc ?_ _) | (with_reducible refine Kd.C_drewN ?_ _) | (with_reducible refine Kd.C_drew ?_) | exact HR290_0.out)) | (with_reducible refine Kd.C_alloc ?_ _) | (with_reducible refine Kd.C_drewN ?_ _) | (with_reducible refine Kd.C_drew ?_))); (case side2 => exact HC290_0.out); (case side3 => repeat (first | exact (by repeat (first | (with_reducible exact HR291_0.out) | (with_reducible refine Kd.C_alloc ?_ _) | (with_reducible refine Kd.C_drewN ?_ _) | (with_reducible refine Kd.C_drew ?_) | exact HR291_0.out)) | (with_reducible refine Kd.C_alloc ?_ _) | (with_reducible refine Kd.C_drewN ?_ _) | (with_reducible refine Kd.C_drew ?_))); (case side4 => exact HC291_0.out); rintro e w' ⟨rfl, ⟨nd, rfl⟩⟩; (try first | exact ⟨rfl, _, World.drewN_drewN _ _ _⟩ | exact ⟨rfl, _, Eq.trans (World.drewN_drewN _ _ _) (congrArg (World.drewN _) (Nat.add_assoc _ _ _))⟩); have p293 : 0 ≤ (x6_2 : Int) := od; have q293 : x6_2 < (l0.length : Int) := od; obtain ⟨ag, A293_0, c293_0, e293, ab, hl293_0, hi293_0⟩ := at_L1 (Kd.V_reads' aa.out).2.2 x6_2 p293 q293; obtain rfl : af = ag := (by injection e293); obtain ⟨ce293, hce293, hMe293, hcc293⟩ := Kd.V_get aa.out [] x6_2 p293 (by first | exact q293 | exact od | (have e_ := (Kd.V_reads' aa.out).1; omega)); obtain ⟨ua293_0, uc293_0, rfl, ul293_0, ge293_0⟩ := Kd.FK_slice_open hMe293; have hv293_0 := hcc293 0 _ rfl; rw [Nat.add_zero, show ((Kd.slice 9 Kd.string)).sz = 1 from rfl, Nat.mul_one] at hv293_0; replace hv293_0 := Option.some.inj (hv293_0.symm.trans ab); injection hv293_0 with hva_ hvn_ hvc_; rw [hva_] at ge293_0; rw [hvc_] at ul293_0; have HL293_0 := Aside0.mk (show Kd.V Kd.string 9 _ w.heap.size _ _ (rd_L1 l0 x6_2) from Kd.V_mk ul293_0 ge293_0); clear hva_ hvn_ hvc_ ge293_0 ul293_0; clear hcc293 hce293; have HR293_0 := Aside0.mk hi293_0; have HC293_0 := Aside0.mk hl293_0; clear hi293_0 hl293_0; replace p293 := eq_true p293; replace q293 := eq_true q293; have ea_ := Option.some.inj (ae.symm.trans ab); injection ea_ with ea_ en_ ec_; subst ea_; subst ec_; clear en_; have p294 : 0 ≤ (x5_1 : Int) := od; have q294 : x5_1 < (l0.length : Int) := od; obtain ⟨ah, A294_0, c294_0, e294, ac, hl294_0, hi294_0⟩ := at_L1 (Kd.V_reads' aa.out).2.2 x5_1 p294 q294; obtain rfl : af = ah := (by injection e294); obtain ⟨ce294, hce294, hMe294, hcc294⟩ := Kd.V_get aa.out [] x5_1 p294 (by first | exact q294 | exact od | (have e_ := (Kd.V_reads' aa.out).1; omega)); obtain ⟨ua294_0, uc294_0, rfl, ul294_0, ge294_0⟩ := Kd.FK_slice_open hMe294; have hv294_0 := hcc294 0 _ rfl; rw [Nat.add_zero, show ((Kd.slice 9 Kd.string)).sz = 1 from rfl, Nat.mul_one] at hv294_0; replace hv294_0 := Option.some.inj (hv294_0.symm.trans ac); injection hv294_0 with hva_ hvn_ hvc_; rw [hva_] at ge294_0; rw [hvc_] at ul294_0; have HL294_0 := Aside0.mk (show Kd.V Kd.string 9 _ w.heap.size _ _ (rd_L1 l0 x5_1) from Kd.V_mk ul294_0 ge294_0); clear hva_ hvn_ hvc_ ge294_0 ul294_0; clear hcc294 hce294; have HR294_0 := Aside0.mk hi294_0; have HC294_0 := Aside0.mk hl294_0; clear hi294_0 hl294_0; replace p294 := eq_true p294; replace q294 := eq_true q294; have ea_ := Option.some.inj (ad.symm.trans ac); injection ea_ with ea_ en_ ec_; subst ea_; subst ec_; clear en_) | (go_at_call 15; (with_reducible refine (carillonref19_Prefix.calls k2 _ _ (rd_L1 l0 x6_2) _ _ (rd_L1 l0 x5_1) t295 _ ?side1 ?side2 ?side3 ?side4 A10.out).mono ?_); (case side1 => repeat (first | exact (by repeat (first | (with_reducible exact HR293_0.out) | (with_reducible refine Kd.C_alloc ?_ _) | (with_reducible refine Kd.C_drewN ?_ _) | (with_reducible refine Kd.C_drew ?_) | exact HR293_0.out)) | (with_reducible refine Kd.C_alloc ?_ _) | (with_reducible refine Kd.C_drewN ?_ _) | (with_reducible refine Kd.C_drew ?_))); (case side2 => exact HC293_0.out); (case side3 => repeat (first | exact (by repeat (first | (with_reducible exact HR294_0.out) | (with_reducible refine Kd.C_alloc ?_ _) | (with_reducible refine Kd.C_drewN ?_ _) | (with_reducible refine Kd.C_drew ?_) | exact HR294_0.out)) | (with_reducible refine Kd.C_alloc ?_ _) | (with_reducible refine Kd.C_drewN ?_ _) | (with_reducible refine Kd.C_drew ?_))); (case side4 => exact HC294_0.out); rintro e w' ⟨rfl, ⟨nd, rfl⟩⟩; (try first | exact ⟨rfl, _, World.drewN_drewN _ _ _⟩ | exact ⟨rfl, _, Eq.trans (World.drewN_drewN _ _ _) (congrArg (World.drewN _) (Nat.add_assoc _ _ _))⟩))); try go_wp2_with (first | (go_at_call 15; (with_reducible refine (carillonref19_Prefix.calls k2 _ _ (rd_L1 l0 x5_1) _ _ (rd_L1 l0 x6_2) true _ ?side1 ?side2 ?side3 ?side4 A9.out).mono ?_); (case side1 => repeat (first | exact (by repeat (first | (with_reducible exact HR290_0.out) | (with_reducible refine Kd.C_alloc ?_ _) | (with_reducible refine Kd.C_drewN ?_ _) | (with_reducible refine Kd.C_drew ?_) | exact HR290_0.out)) | (with_reducible refine Kd.C_alloc ?_ _) | (with_reducible refine Kd.C_drewN ?_ _) | (with_reducible refine Kd.C_drew ?_))); (case side2 => exact HC290_0.out); (case side3 => repeat (first | exact (by repeat (first | (with_reducible exact HR291_0.out) | (with_reducible refine Kd.C_alloc ?_ _) | (with_reducible refine Kd.C_drewN ?_ _) | (with_reducible refine Kd.C_drew ?_) | exact HR291_0.out)) | (with_reducible refine Kd.C_alloc ?_ _) | (with_reducible refine Kd.C_drewN ?_ _) | (with_reducible refine Kd.C_drew ?_))); (case side4 => exact HC291_0.out); rintro e w' ⟨rfl, ⟨nd, rfl⟩⟩; (try first | exact ⟨rfl, _, World.drewN_drewN _ _ _⟩ | exact ⟨rfl, _, Eq.trans (World.drewN_drewN _ _ _) (congrArg (World.drewN _) (Nat.add_assoc _ _ _))⟩); have p293 : 0 ≤ (x6_2 : Int) := od; have q293 : x6_2 < (l0.length : Int) := od; obtain ⟨ag, A293_0, c293_0, e293, ab, hl293_0, hi293_0⟩ := at_L1 (Kd.V_reads' aa.out).2.2 x6_2 p293 q293; obtain rfl : af = ag := (by injection e293); obtain ⟨ce293, hce293, hMe293, hcc293⟩ := Kd.V_get aa.out [] x6_2 p293 (by first | exact q293 | exact od | (have e_ := (Kd.V_reads' aa.out).1; omega)); obtain ⟨ua293_0, uc293_0, rfl, ul293_0, ge293_0⟩ := Kd.FK_slice_open hMe293; have hv293_0 := hcc293 0 _ rfl; rw [Nat.add_zero, show ((Kd.slice 9 Kd.string)).sz = 1 from rfl, Nat.mul_one] at hv293_0; replace hv293_0 := Option.some.inj (hv293_0.symm.trans ab); injection hv293_0 with hva_ hvn_ hvc_; rw [hva_] at ge293_0; rw [hvc_] at ul293_0; have HL293_0 := Aside0.mk (show Kd.V Kd.string 9 _ w.heap.size _ _ (rd_L1 l0 x6_2) from Kd.V_mk ul293_0 ge293_0); clear hva_ hvn_ hvc_ ge293_0 ul293_0; clear hcc293 hce293; have HR293_0 := Aside0.mk hi293_0; have HC293_0 := Aside0.mk hl293_0; clear hi293_0 hl293_0; replace p293 := eq_true p293; replace q293 := eq_true q293; have ea_ := Option.some.inj (ae.symm.trans ab); injection ea_ with ea_ en_ ec_; subst ea_; subst ec_; clear en_; have p294 : 0 ≤ (x5_1 : Int) := od; have q294 : x5_1 < (l0.length : Int) := od; obtain ⟨ah, A294_0, c294_0, e294, ac, hl294_0, hi294_0⟩ := at_L1 (Kd.V_reads' aa.out).2.2 x5_1 p294 q294; obtain rfl : af = ah := (by injection e294); obtain ⟨ce294, hce294, hMe294, hcc294⟩ := Kd.V_get aa.out [] x5_1 p294 (by first | exact q294 | exact od | (have e_ := (Kd.V_reads' aa.out).1; omega)); obtain ⟨ua294_0, uc294_0, rfl, ul294_0, ge294_0⟩ := Kd.FK_slice_open hMe294; have hv294_0 := hcc294 0 _ rfl; rw [Nat.add_zero, show ((Kd.slice 9 Kd.string)).sz = 1 from rfl, Nat.mul_one] at hv294_0; replace hv294_0 := Option.some.inj (hv294_0.symm.trans ac); injection hv294_0 with hva_ hvn_ hvc_; rw [hva_] at ge294_0; rw [hvc_] at ul294_0; have HL294_0 := Aside0.mk (show Kd.V Kd.string 9 _ w.heap.size _ _ (rd_L1 l0 x5_1) from Kd.V_mk ul294_0 ge294_0); clear hva_ hvn_ hvc_ ge294_0 ul294_0; clear hcc294 hce294; have HR294_0 := Aside0.mk hi294_0; have HC294_0 := Aside0.mk hl294_0; clear hi294_0 hl294_0; replace p294 := eq_true p294; replace q294 := eq_true q294; have ea_ := Option.some.inj (ad.symm.trans ac); injection ea_ with ea_ en_ ec_; subst ea_; subst ec_; clear en_) | (go_at_call 15; (with_reducible refine (carillonref19_Prefix.calls k2 _ _ (rd_L1 l0 x6_2) _ _ (rd_L1 l0 x5_1) t295 _ ?side1 ?side2 ?side3 ?side4 A10.out).mono ?_); (case side1 => repeat (first | exact (by repeat (first | (with_reducible exact HR293_0.out) | (with_reducible refine Kd.C_alloc ?_ _) | (with_reducible refine Kd.C_drewN ?_ _) | (with_reducible refine Kd.C_drew ?_) | exact HR293_0.out)) | (with_reducible refine Kd.C_alloc ?_ _) | (with_reducible refine Kd.C_drewN ?_ _) | (with_reducible refine Kd.C_drew ?_))); (case side2 => exact HC293_0.out); (case side3 => repeat (first | exact (by repeat (first | (with_reducible exact HR294_0.out) | (with_reducible refine Kd.C_alloc ?_ _) | (with_reducible refine Kd.C_drewN ?_ _) | (with_reducible refine Kd.C_drew ?_) | exact HR294_0.out)) | (with_reducible refine Kd.C_alloc ?_ _) | (with_reducible refine Kd.C_drewN ?_ _) | (with_reducible refine Kd.C_drew ?_))); (case side4 => exact HC294_0.out); rintro e w' ⟨rfl, ⟨nd, rfl⟩⟩; (try first | exact ⟨rfl, _, World.drewN_drewN _ _ _⟩ | exact ⟨rfl, _, Eq.trans (World.drewN_drewN _ _ _) (congrArg (World.drewN _) (Nat.add_assoc _ _ _))⟩))))
      go_roundg k2
      case measure => have := HK1.out; have := HK2.out; omega
      case rel => exact ⟨(wrap64 (x6_2 + 1)), (by first | rfl | (simp; done) | (simp [*]; done)), H', ⟨by have := HK1.out; have := HK2.out; omega⟩, ⟨by (with_reducible repeat (first | apply Kd.V_alloc | apply Kd.V_drewN | apply Kd.V_drew)); exact aa.out⟩, ⟨bw⟩⟩
     replace c11 := Bool.eq_false_iff.mpr c11
     subst c11
     have H1 : (if t295 = true then (carillonref19_Longest.l1 k2 l0 x4_1 x5_1 (wrap64 (x6_2 + 1))) else (some (([] : List ByteArray), 11))) = some (r1, r2) := by rw [if_neg (show ¬ (false = true) by decide)] at H; exact H
     clear H
     have H := H1
     clear H1
     by_cases c12 : t295 = true; rotate_left
     ·replace c12 := Bool.eq_false_iff.mpr c12
      subst c12
      have H1 : (some (([] : List ByteArray), 11)) = some (r1, r2) := by rw [if_neg (show ¬ (false = true) by decide)] at H; exact H
      clear H
      have H := H1
      clear H1
      simp only [Option.some.injEq, Prod.mk.injEq] at H
      obtain ⟨rfl, rfl⟩ := H
      have p290 : 0 ≤ (x5_1 : Int) := od
      have q290 : x5_1 < (l0.length : Int) := od
      obtain ⟨af, A290_0, c290_0, e290, ad, hl290_0, hi290_0⟩ := at_L1 (Kd.V_reads' aa.out).2.2 x5_1 p290 q290
      cases e290
      obtain ⟨ce290, hce290, hMe290, hcc290⟩ := Kd.V_get aa.out [] x5_1 p290 (by first | exact q290 | exact od | (have e_ := (Kd.V_reads' aa.out).1; omega))
      obtain ⟨ua290_0, uc290_0, rfl, ul290_0, ge290_0⟩ := Kd.FK_slice_open hMe290
      have hv290_0 := hcc290 0 _ rfl
      rw [Nat.add_zero, show ((Kd.slice 9 Kd.string)).sz = 1 from rfl, Nat.mul_one] at hv290_0
      replace hv290_0 := Option.some.inj (hv290_0.symm.trans ad)
      injection hv290_0 with hva_ hvn_ hvc_
      rw [hva_] at ge290_0
      rw [hvc_] at ul290_0
      have HL290_0 := Aside0.mk (show Kd.V Kd.string 9 _ w.heap.size _ _ (rd_L1 l0 x5_1) from Kd.V_mk ul290_0 ge290_0)
      clear hva_ hvn_ hvc_ ge290_0 ul290_0
      clear hcc290 hce290
      have HR290_0 := Aside0.mk hi290_0
      have HC290_0 := Aside0.mk hl290_0
      clear hi290_0 hl290_0
      replace p290 := eq_true p290
      replace q290 := eq_true q290
      have p291 : 0 ≤ (x6_2 : Int) := od
      have q291 : x6_2 < (l0.length : Int) := od
      obtain ⟨ak, A291_0, c291_0, e291, ae, hl291_0, hi291_0⟩ := at_L1 (Kd.V_reads' aa.out).2.2 x6_2 p291 q291
      obtain rfl : af = ak := (by injection e291)
      obtain ⟨ce291, hce291, hMe291, hcc291⟩ := Kd.V_get aa.out [] x6_2 p291 (by first | exact q291 | exact od | (have e_ := (Kd.V_reads' aa.out).1; omega))
      obtain ⟨ua291_0, uc291_0, rfl, ul291_0, ge291_0⟩ := Kd.FK_slice_open hMe291
      have hv291_0 := hcc291 0 _ rfl
      rw [Nat.add_zero, show ((Kd.slice 9 Kd.string)).sz = 1 from rfl, Nat.mul_one] at hv291_0
      replace hv291_0 := Option.some.inj (hv291_0.symm.trans ae)
      injection hv291_0 with hva_ hvn_ hvc_
      rw [hva_] at ge291_0
      rw [hvc_] at ul291_0
      have HL291_0 := Aside0.mk (show Kd.V Kd.string 9 _ w.heap.size _ _ (rd_L1 l0 x6_2) from Kd.V_mk ul291_0 ge291_0)
      clear hva_ hvn_ hvc_ ge291_0 ul291_0
      clear hcc291 hce291
      have HR291_0 := Aside0.mk hi291_0
      have HC291_0 := Aside0.mk hl291_0
      clear hi291_0 hl291_0
      replace p291 := eq_true p291
      replace q291 := eq_true q291
      go_wp2_with (first | (go_at_call 15; (with_reducible refine (carillonref19_Prefix.calls k2 _ _ (rd_L1 l0 x5_1) _ _ (rd_L1 l0 x6_2) false _ ?side1 ?side2 ?side3 ?side4 A9.out).mono ?_); (case side1 => repeat (first | exact (by repeat (first | (with_reducible exact HR290_0.out) | (with_reducible refine Kd.C_alloc ?_ _) | (with_reducible refine Kd.C_drewN ?_ _) | (with_reducible refine Kd.C_drew ?_) | exact HR290_0.out)) | (with_reducible refine Kd.C_alloc ?_ _) | (with_reducible refine Kd.C_drewN ?_ _) | (with_reducible refine Kd.C_drew ?_))); (case side2 => exact HC290_0.out); (case side3 => repeat (first | exact (by repeat (first | (with_reducible exact HR291_0.out) | (with_reducible refine Kd.C_alloc ?_ _) | (with_reducible refine Kd.C_drewN ?_ _) | (with_reducible refine Kd.C_drew ?_) | exact HR291_0.out)) | (with_reducible refine Kd.C_alloc ?_ _) | (with_reducible refine Kd.C_drewN ?_ _) | (with_reducible refine Kd.C_drew ?_))); (case side4 => exact HC291_0.out); rintro e w' ⟨rfl, ⟨nd, rfl⟩⟩; (try first | exact ⟨rfl, _, World.drewN_drewN _ _ _⟩ | exact ⟨rfl, _, Eq.trans (World.drewN_drewN _ _ _) (congrArg (World.drewN _) (Nat.add_assoc _ _ _))⟩); have p293 : 0 ≤ (x6_2 : Int) := od; have q293 : x6_2 < (l0.length : Int) := od; obtain ⟨ag, A293_0, c293_0, e293, ab, hl293_0, hi293_0⟩ := at_L1 (Kd.V_reads' aa.out).2.2 x6_2 p293 q293; obtain rfl : af = ag := (by injection e293); obtain ⟨ce293, hce293, hMe293, hcc293⟩ := Kd.V_get aa.out [] x6_2 p293 (by first | exact q293 | exact od | (have e_ := (Kd.V_reads' aa.out).1; omega)); obtain ⟨ua293_0, uc293_0, rfl, ul293_0, ge293_0⟩ := Kd.FK_slice_open hMe293; have hv293_0 := hcc293 0 _ rfl; rw [Nat.add_zero, show ((Kd.slice 9 Kd.string)).sz = 1 from rfl, Nat.mul_one] at hv293_0; replace hv293_0 := Option.some.inj (hv293_0.symm.trans ab); injection hv293_0 with hva_ hvn_ hvc_; rw [hva_] at ge293_0; rw [hvc_] at ul293_0; have HL293_0 := Aside0.mk (show Kd.V Kd.string 9 _ w.heap.size _ _ (rd_L1 l0 x6_2) from Kd.V_mk ul293_0 ge293_0); clear hva_ hvn_ hvc_ ge293_0 ul293_0; clear hcc293 hce293; have HR293_0 := Aside0.mk hi293_0; have HC293_0 := Aside0.mk hl293_0; clear hi293_0 hl293_0; replace p293 := eq_true p293; replace q293 := eq_true q293; have ea_ := Option.some.inj (ae.symm.trans ab); injection ea_ with ea_ en_ ec_; subst ea_; subst ec_; clear en_; have p294 : 0 ≤ (x5_1 : Int) := od; have q294 : x5_1 < (l0.length : Int) := od; obtain ⟨ah, A294_0, c294_0, e294, ac, hl294_0, hi294_0⟩ := at_L1 (Kd.V_reads' aa.out).2.2 x5_1 p294 q294; obtain rfl : af = ah := (by injection e294); obtain ⟨ce294, hce294, hMe294, hcc294⟩ := Kd.V_get aa.out [] x5_1 p294 (by first | exact q294 | exact od | (have e_ := (Kd.V_reads' aa.out).1; omega)); obtain ⟨ua294_0, uc294_0, rfl, ul294_0, ge294_0⟩ := Kd.FK_slice_open hMe294; have hv294_0 := hcc294 0 _ rfl; rw [Nat.add_zero, show ((Kd.slice 9 Kd.string)).sz = 1 from rfl, Nat.mul_one] at hv294_0; replace hv294_0 := Option.some.inj (hv294_0.symm.trans ac); injection hv294_0 with hva_ hvn_ hvc_; rw [hva_] at ge294_0; rw [hvc_] at ul294_0; have HL294_0 := Aside0.mk (show Kd.V Kd.string 9 _ w.heap.size _ _ (rd_L1 l0 x5_1) from Kd.V_mk ul294_0 ge294_0); clear hva_ hvn_ hvc_ ge294_0 ul294_0; clear hcc294 hce294; have HR294_0 := Aside0.mk hi294_0; have HC294_0 := Aside0.mk hl294_0; clear hi294_0 hl294_0; replace p294 := eq_true p294; replace q294 := eq_true q294; have ea_ := Option.some.inj (ad.symm.trans ac); injection ea_ with ea_ en_ ec_; subst ea_; subst ec_; clear en_) | (go_at_call 15; (with_reducible refine (carillonref19_Prefix.calls k2 _ _ (rd_L1 l0 x6_2) _ _ (rd_L1 l0 x5_1) false _ ?side1 ?side2 ?side3 ?side4 A10.out).mono ?_); (case side1 => repeat (first | exact (by repeat (first | (with_reducible exact HR293_0.out) | (with_reducible refine Kd.C_alloc ?_ _) | (with_reducible refine Kd.C_drewN ?_ _) | (with_reducible refine Kd.C_drew ?_) | exact HR293_0.out)) | (with_reducible refine Kd.C_alloc ?_ _) | (with_reducible refine Kd.C_drewN ?_ _) | (with_reducible refine Kd.C_drew ?_))); (case side2 => exact HC293_0.out); (case side3 => repeat (first | exact (by repeat (first | (with_reducible exact HR294_0.out) | (with_reducible refine Kd.C_alloc ?_ _) | (with_reducible refine Kd.C_drewN ?_ _) | (with_reducible refine Kd.C_drew ?_) | exact HR294_0.out)) | (with_reducible refine Kd.C_alloc ?_ _) | (with_reducible refine Kd.C_drewN ?_ _) | (with_reducible refine Kd.C_drew ?_))); (case side4 => exact HC294_0.out); rintro e w' ⟨rfl, ⟨nd, rfl⟩⟩; (try first | exact ⟨rfl, _, World.drewN_drewN _ _ _⟩ | exact ⟨rfl, _, Eq.trans (World.drewN_drewN _ _ _) (congrArg (World.drewN _) (Nat.add_assoc _ _ _))⟩)))
      repeat (go_quiet (first | (go_at_call 15; (with_reducible refine (carillonref19_Prefix.calls k2 _ _ (rd_L1 l0 x5_1) _ _ (rd_L1 l0 x6_2) false _ ?side1 ?side2 ?side3 ?side4 A9.out).mono ?_); (case side1 => repeat (first | exact (by repeat (first | (with_reducible exact HR290_0.out) | (with_reducible refine Kd.C_alloc ?_ _) | (with_reducible refine Kd.C_drewN ?_ _) | (with_reducible refine Kd.C_drew ?_) | exact HR290_0.out)) | (with_reducible refine Kd.C_alloc ?_ _) | (with_reducible refine Kd.C_drewN ?_ _) | (with_reducible refine Kd.C_drew ?_))); (case side2 => exact HC290_0.out); (case side3 => repeat (first | exact (by repeat (first | (with_reducible exact HR291_0.out) | (with_reducible refine Kd.C_alloc ?_ _) | (with_reducible refine Kd.C_drewN ?_ _) | (with_reducible refine Kd.C_drew ?_) | exact HR291_0.out)) | (with_reducible refine Kd.C_alloc ?_ _) | (with_reducible refine Kd.C_drewN ?_ _) | (with_reducible refine Kd.C_drew ?_))); (case side4 => exact HC291_0.out); rintro e w' ⟨rfl, ⟨nd, rfl⟩⟩; (try first | exact ⟨rfl, _, World.drewN_drewN _ _ _⟩ | exact ⟨rfl, _, Eq.trans (World.drewN_drewN _ _ _) (congrArg (World.drewN _) (Nat.add_assoc _ _ _))⟩); have p293 : 0 ≤ (x6_2 : Int) := od; have q293 : x6_2 < (l0.length : Int) := od; obtain ⟨ag, A293_0, c293_0, e293, ab, hl293_0, hi293_0⟩ := at_L1 (Kd.V_reads' aa.out).2.2 x6_2 p293 q293; obtain rfl : af = ag := (by injection e293); obtain ⟨ce293, hce293, hMe293, hcc293⟩ := Kd.V_get aa.out [] x6_2 p293 (by first | exact q293 | exact od | (have e_ := (Kd.V_reads' aa.out).1; omega)); obtain ⟨ua293_0, uc293_0, rfl, ul293_0, ge293_0⟩ := Kd.FK_slice_open hMe293; have hv293_0 := hcc293 0 _ rfl; rw [Nat.add_zero, show ((Kd.slice 9 Kd.string)).sz = 1 from rfl, Nat.mul_one] at hv293_0; replace hv293_0 := Option.some.inj (hv293_0.symm.trans ab); injection hv293_0 with hva_ hvn_ hvc_; rw [hva_] at ge293_0; rw [hvc_] at ul293_0; have HL293_0 := Aside0.mk (show Kd.V Kd.string 9 _ w.heap.size _ _ (rd_L1 l0 x6_2) from Kd.V_mk ul293_0 ge293_0); clear hva_ hvn_ hvc_ ge293_0 ul293_0; clear hcc293 hce293; have HR293_0 := Aside0.mk hi293_0; have HC293_0 := Aside0.mk hl293_0; clear hi293_0 hl293_0; replace p293 := eq_true p293; replace q293 := eq_true q293; have ea_ := Option.some.inj (ae.symm.trans ab); injection ea_ with ea_ en_ ec_; subst ea_; subst ec_; clear en_; have p294 : 0 ≤ (x5_1 : Int) := od; have q294 : x5_1 < (l0.length : Int) := od; obtain ⟨ah, A294_0, c294_0, e294, ac, hl294_0, hi294_0⟩ := at_L1 (Kd.V_reads' aa.out).2.2 x5_1 p294 q294; obtain rfl : af = ah := (by injection e294); obtain ⟨ce294, hce294, hMe294, hcc294⟩ := Kd.V_get aa.out [] x5_1 p294 (by first | exact q294 | exact od | (have e_ := (Kd.V_reads' aa.out).1; omega)); obtain ⟨ua294_0, uc294_0, rfl, ul294_0, ge294_0⟩ := Kd.FK_slice_open hMe294; have hv294_0 := hcc294 0 _ rfl; rw [Nat.add_zero, show ((Kd.slice 9 Kd.string)).sz = 1 from rfl, Nat.mul_one] at hv294_0; replace hv294_0 := Option.some.inj (hv294_0.symm.trans ac); injection hv294_0 with hva_ hvn_ hvc_; rw [hva_] at ge294_0; rw [hvc_] at ul294_0; have HL294_0 := Aside0.mk (show Kd.V Kd.string 9 _ w.heap.size _ _ (rd_L1 l0 x5_1) from Kd.V_mk ul294_0 ge294_0); clear hva_ hvn_ hvc_ ge294_0 ul294_0; clear hcc294 hce294; have HR294_0 := Aside0.mk hi294_0; have HC294_0 := Aside0.mk hl294_0; clear hi294_0 hl294_0; replace p294 := eq_true p294; replace q294 := eq_true q294; have ea_ := Option.some.inj (ad.symm.trans ac); injection ea_ with ea_ en_ ec_; subst ea_; subst ec_; clear en_) | (go_at_call 15; (with_reducible refine (carillonref19_Prefix.calls k2 _ _ (rd_L1 l0 x6_2) _ _ (rd_L1 l0 x5_1) false _ ?side1 ?side2 ?side3 ?side4 A10.out).mono ?_); (case side1 => repeat (first | exact (by repeat (first | (with_reducible exact HR293_0.out) | (with_reducible refine Kd.C_alloc ?_ _) | (with_reducible refine Kd.C_drewN ?_ _) | (with_reducible refine Kd.C_drew ?_) | exact HR293_0.out)) | (with_reducible refine Kd.C_alloc ?_ _) | (with_reducible refine Kd.C_drewN ?_ _) | (with_reducible refine Kd.C_drew ?_))); (case side2 => exact HC293_0.out); (case side3 => repeat (first | exact (by repeat (first | (with_reducible exact HR294_0.out) | (with_reducible refine Kd.C_alloc ?_ _) | (with_reducible refine Kd.C_drewN ?_ _) | (with_reducible refine Kd.C_drew ?_) | exact HR294_0.out)) | (with_reducible refine Kd.C_alloc ?_ _) | (with_reducible refine Kd.C_drewN ?_ _) | (with_reducible refine Kd.C_drew ?_))); (case side4 => exact HC294_0.out); rintro e w' ⟨rfl, ⟨nd, rfl⟩⟩; (try first | exact ⟨rfl, _, World.drewN_drewN _ _ _⟩ | exact ⟨rfl, _, Eq.trans (World.drewN_drewN _ _ _) (congrArg (World.drewN _) (Nat.add_assoc _ _ _))⟩))); try go_wp2_with (first | (go_at_call 15; (with_reducible refine (carillonref19_Prefix.calls k2 _ _ (rd_L1 l0 x5_1) _ _ (rd_L1 l0 x6_2) false _ ?side1 ?side2 ?side3 ?side4 A9.out).mono ?_); (case side1 => repeat (first | exact (by repeat (first | (with_reducible exact HR290_0.out) | (with_reducible refine Kd.C_alloc ?_ _) | (with_reducible refine Kd.C_drewN ?_ _) | (with_reducible refine Kd.C_drew ?_) | exact HR290_0.out)) | (with_reducible refine Kd.C_alloc ?_ _) | (with_reducible refine Kd.C_drewN ?_ _) | (with_reducible refine Kd.C_drew ?_))); (case side2 => exact HC290_0.out); (case side3 => repeat (first | exact (by repeat (first | (with_reducible exact HR291_0.out) | (with_reducible refine Kd.C_alloc ?_ _) | (with_reducible refine Kd.C_drewN ?_ _) | (with_reducible refine Kd.C_drew ?_) | exact HR291_0.out)) | (with_reducible refine Kd.C_alloc ?_ _) | (with_reducible refine Kd.C_drewN ?_ _) | (with_reducible refine Kd.C_drew ?_))); (case side4 => exact HC291_0.out); rintro e w' ⟨rfl, ⟨nd, rfl⟩⟩; (try first | exact ⟨rfl, _, World.drewN_drewN _ _ _⟩ | exact ⟨rfl, _, Eq.trans (World.drewN_drewN _ _ _) (congrArg (World.drewN _) (Nat.add_assoc _ _ _))⟩); have p293 : 0 ≤ (x6_2 : Int) := od; have q293 : x6_2 < (l0.length : Int) := od; obtain ⟨ag, A293_0, c293_0, e293, ab, hl293_0, hi293_0⟩ := at_L1 (Kd.V_reads' aa.out).2.2 x6_2 p293 q293; obtain rfl : af = ag := (by injection e293); obtain ⟨ce293, hce293, hMe293, hcc293⟩ := Kd.V_get aa.out [] x6_2 p293 (by first | exact q293 | exact od | (have e_ := (Kd.V_reads' aa.out).1; omega)); obtain ⟨ua293_0, uc293_0, rfl, ul293_0, ge293_0⟩ := Kd.FK_slice_open hMe293; have hv293_0 := hcc293 0 _ rfl; rw [Nat.add_zero, show ((Kd.slice 9 Kd.string)).sz = 1 from rfl, Nat.mul_one] at hv293_0; replace hv293_0 := Option.some.inj (hv293_0.symm.trans ab); injection hv293_0 with hva_ hvn_ hvc_; rw [hva_] at ge293_0; rw [hvc_] at ul293_0; have HL293_0 := Aside0.mk (show Kd.V Kd.string 9 _ w.heap.size _ _ (rd_L1 l0 x6_2) from Kd.V_mk ul293_0 ge293_0); clear hva_ hvn_ hvc_ ge293_0 ul293_0; clear hcc293 hce293; have HR293_0 := Aside0.mk hi293_0; have HC293_0 := Aside0.mk hl293_0; clear hi293_0 hl293_0; replace p293 := eq_true p293; replace q293 := eq_true q293; have ea_ := Option.some.inj (ae.symm.trans ab); injection ea_ with ea_ en_ ec_; subst ea_; subst ec_; clear en_; have p294 : 0 ≤ (x5_1 : Int) := od; have q294 : x5_1 < (l0.length : Int) := od; obtain ⟨ah, A294_0, c294_0, e294, ac, hl294_0, hi294_0⟩ := at_L1 (Kd.V_reads' aa.out).2.2 x5_1 p294 q294; obtain rfl : af = ah := (by injection e294); obtain ⟨ce294, hce294, hMe294, hcc294⟩ := Kd.V_get aa.out [] x5_1 p294 (by first | exact q294 | exact od | (have e_ := (Kd.V_reads' aa.out).1; omega)); obtain ⟨ua294_0, uc294_0, rfl, ul294_0, ge294_0⟩ := Kd.FK_slice_open hMe294; have hv294_0 := hcc294 0 _ rfl; rw [Nat.add_zero, show ((Kd.slice 9 Kd.string)).sz = 1 from rfl, Nat.mul_one] at hv294_0; replace hv294_0 := Option.some.inj (hv294_0.symm.trans ac); injection hv294_0 with hva_ hvn_ hvc_; rw [hva_] at ge294_0; rw [hvc_] at ul294_0; have HL294_0 := Aside0.mk (show Kd.V Kd.string 9 _ w.heap.size _ _ (rd_L1 l0 x5_1) from Kd.V_mk ul294_0 ge294_0); clear hva_ hvn_ hvc_ ge294_0 ul294_0; clear hcc294 hce294; have HR294_0 := Aside0.mk hi294_0; have HC294_0 := Aside0.mk hl294_0; clear hi294_0 hl294_0; replace p294 := eq_true p294; replace q294 := eq_true q294; have ea_ := Option.some.inj (ad.symm.trans ac); injection ea_ with ea_ en_ ec_; subst ea_; subst ec_; clear en_) | (go_at_call 15; (with_reducible refine (carillonref19_Prefix.calls k2 _ _ (rd_L1 l0 x6_2) _ _ (rd_L1 l0 x5_1) false _ ?side1 ?side2 ?side3 ?side4 A10.out).mono ?_); (case side1 => repeat (first | exact (by repeat (first | (with_reducible exact HR293_0.out) | (with_reducible refine Kd.C_alloc ?_ _) | (with_reducible refine Kd.C_drewN ?_ _) | (with_reducible refine Kd.C_drew ?_) | exact HR293_0.out)) | (with_reducible refine Kd.C_alloc ?_ _) | (with_reducible refine Kd.C_drewN ?_ _) | (with_reducible refine Kd.C_drew ?_))); (case side2 => exact HC293_0.out); (case side3 => repeat (first | exact (by repeat (first | (with_reducible exact HR294_0.out) | (with_reducible refine Kd.C_alloc ?_ _) | (with_reducible refine Kd.C_drewN ?_ _) | (with_reducible refine Kd.C_drew ?_) | exact HR294_0.out)) | (with_reducible refine Kd.C_alloc ?_ _) | (with_reducible refine Kd.C_drewN ?_ _) | (with_reducible refine Kd.C_drew ?_))); (case side4 => exact HC294_0.out); rintro e w' ⟨rfl, ⟨nd, rfl⟩⟩; (try first | exact ⟨rfl, _, World.drewN_drewN _ _ _⟩ | exact ⟨rfl, _, Eq.trans (World.drewN_drewN _ _ _) (congrArg (World.drewN _) (Nat.add_assoc _ _ _))⟩))))
      go_ret2
      exact ⟨_, er, Kd.V_mono (Kd.V_nil _ _ _ _ _) (fun k_ hk => by first | exact ⟨(.inr (hk.1)), hk.2⟩ | exact (.inr (hk))), bw⟩
     subst c12
     have H1 : (carillonref19_Longest.l1 k2 l0 x4_1 x5_1 (wrap64 (x6_2 + 1))) = some (r1, r2) := by rw [if_pos rfl] at H; exact H
     clear H
     have H := H1
     clear H1
     have H' := Aside0.mk H
     clear H
     have p290 : 0 ≤ (x5_1 : Int) := od
     have q290 : x5_1 < (l0.length : Int) := od
     obtain ⟨af, A290_0, c290_0, e290, ad, hl290_0, hi290_0⟩ := at_L1 (Kd.V_reads' aa.out).2.2 x5_1 p290 q290
     cases e290
     obtain ⟨ce290, hce290, hMe290, hcc290⟩ := Kd.V_get aa.out [] x5_1 p290 (by first | exact q290 | exact od | (have e_ := (Kd.V_reads' aa.out).1; omega))
     obtain ⟨ua290_0, uc290_0, rfl, ul290_0, ge290_0⟩ := Kd.FK_slice_open hMe290
     have hv290_0 := hcc290 0 _ rfl
     rw [Nat.add_zero, show ((Kd.slice 9 Kd.string)).sz = 1 from rfl, Nat.mul_one] at hv290_0
     replace hv290_0 := Option.some.inj (hv290_0.symm.trans ad)
     injection hv290_0 with hva_ hvn_ hvc_
     rw [hva_] at ge290_0
     rw [hvc_] at ul290_0
     have HL290_0 := Aside0.mk (show Kd.V Kd.string 9 _ w.heap.size _ _ (rd_L1 l0 x5_1) from Kd.V_mk ul290_0 ge290_0)
     clear hva_ hvn_ hvc_ ge290_0 ul290_0
     clear hcc290 hce290
     have HR290_0 := Aside0.mk hi290_0
     have HC290_0 := Aside0.mk hl290_0
     clear hi290_0 hl290_0
     replace p290 := eq_true p290
     replace q290 := eq_true q290
     have p291 : 0 ≤ (x6_2 : Int) := od
     have q291 : x6_2 < (l0.length : Int) := od
     obtain ⟨ak, A291_0, c291_0, e291, ae, hl291_0, hi291_0⟩ := at_L1 (Kd.V_reads' aa.out).2.2 x6_2 p291 q291
     obtain rfl : af = ak := (by injection e291)
     obtain ⟨ce291, hce291, hMe291, hcc291⟩ := Kd.V_get aa.out [] x6_2 p291 (by first | exact q291 | exact od | (have e_ := (Kd.V_reads' aa.out).1; omega))
     obtain ⟨ua291_0, uc291_0, rfl, ul291_0, ge291_0⟩ := Kd.FK_slice_open hMe291
     have hv291_0 := hcc291 0 _ rfl
     rw [Nat.add_zero, show ((Kd.slice 9 Kd.string)).sz = 1 from rfl, Nat.mul_one] at hv291_0
     replace hv291_0 := Option.some.inj (hv291_0.symm.trans ae)
     injection hv291_0 with hva_ hvn_ hvc_
     rw [hva_] at ge291_0
     rw [hvc_] at ul291_0
     have HL291_0 := Aside0.mk (show Kd.V Kd.string 9 _ w.heap.size _ _ (rd_L1 l0 x6_2) from Kd.V_mk ul291_0 ge291_0)
     clear hva_ hvn_ hvc_ ge291_0 ul291_0
     clear hcc291 hce291
     have HR291_0 := Aside0.mk hi291_0
     have HC291_0 := Aside0.mk hl291_0
     clear hi291_0 hl291_0
     replace p291 := eq_true p291
     replace q291 := eq_true q291
     go_wp2_with (first | (go_at_call 15; (with_reducible refine (carillonref19_Prefix.calls k2 _ _ (rd_L1 l0 x5_1) _ _ (rd_L1 l0 x6_2) false _ ?side1 ?side2 ?side3 ?side4 A9.out).mono ?_); (case side1 => repeat (first | exact (by repeat (first | (with_reducible exact HR290_0.out) | (with_reducible refine Kd.C_alloc ?_ _) | (with_reducible refine Kd.C_drewN ?_ _) | (with_reducible refine Kd.C_drew ?_) | exact HR290_0.out)) | (with_reducible refine Kd.C_alloc ?_ _) | (with_reducible refine Kd.C_drewN ?_ _) | (with_reducible refine Kd.C_drew ?_))); (case side2 => exact HC290_0.out); (case side3 => repeat (first | exact (by repeat (first | (with_reducible exact HR291_0.out) | (with_reducible refine Kd.C_alloc ?_ _) | (with_reducible refine Kd.C_drewN ?_ _) | (with_reducible refine Kd.C_drew ?_) | exact HR291_0.out)) | (with_reducible refine Kd.C_alloc ?_ _) | (with_reducible refine Kd.C_drewN ?_ _) | (with_reducible refine Kd.C_drew ?_))); (case side4 => exact HC291_0.out); rintro e w' ⟨rfl, ⟨nd, rfl⟩⟩; (try first | exact ⟨rfl, _, World.drewN_drewN _ _ _⟩ | exact ⟨rfl, _, Eq.trans (World.drewN_drewN _ _ _) (congrArg (World.drewN _) (Nat.add_assoc _ _ _))⟩); have p293 : 0 ≤ (x6_2 : Int) := od; have q293 : x6_2 < (l0.length : Int) := od; obtain ⟨ag, A293_0, c293_0, e293, ab, hl293_0, hi293_0⟩ := at_L1 (Kd.V_reads' aa.out).2.2 x6_2 p293 q293; obtain rfl : af = ag := (by injection e293); obtain ⟨ce293, hce293, hMe293, hcc293⟩ := Kd.V_get aa.out [] x6_2 p293 (by first | exact q293 | exact od | (have e_ := (Kd.V_reads' aa.out).1; omega)); obtain ⟨ua293_0, uc293_0, rfl, ul293_0, ge293_0⟩ := Kd.FK_slice_open hMe293; have hv293_0 := hcc293 0 _ rfl; rw [Nat.add_zero, show ((Kd.slice 9 Kd.string)).sz = 1 from rfl, Nat.mul_one] at hv293_0; replace hv293_0 := Option.some.inj (hv293_0.symm.trans ab); injection hv293_0 with hva_ hvn_ hvc_; rw [hva_] at ge293_0; rw [hvc_] at ul293_0; have HL293_0 := Aside0.mk (show Kd.V Kd.string 9 _ w.heap.size _ _ (rd_L1 l0 x6_2) from Kd.V_mk ul293_0 ge293_0); clear hva_ hvn_ hvc_ ge293_0 ul293_0; clear hcc293 hce293; have HR293_0 := Aside0.mk hi293_0; have HC293_0 := Aside0.mk hl293_0; clear hi293_0 hl293_0; replace p293 := eq_true p293; replace q293 := eq_true q293; have ea_ := Option.some.inj (ae.symm.trans ab); injection ea_ with ea_ en_ ec_; subst ea_; subst ec_; clear en_; have p294 : 0 ≤ (x5_1 : Int) := od; have q294 : x5_1 < (l0.length : Int) := od; obtain ⟨ah, A294_0, c294_0, e294, ac, hl294_0, hi294_0⟩ := at_L1 (Kd.V_reads' aa.out).2.2 x5_1 p294 q294; obtain rfl : af = ah := (by injection e294); obtain ⟨ce294, hce294, hMe294, hcc294⟩ := Kd.V_get aa.out [] x5_1 p294 (by first | exact q294 | exact od | (have e_ := (Kd.V_reads' aa.out).1; omega)); obtain ⟨ua294_0, uc294_0, rfl, ul294_0, ge294_0⟩ := Kd.FK_slice_open hMe294; have hv294_0 := hcc294 0 _ rfl; rw [Nat.add_zero, show ((Kd.slice 9 Kd.string)).sz = 1 from rfl, Nat.mul_one] at hv294_0; replace hv294_0 := Option.some.inj (hv294_0.symm.trans ac); injection hv294_0 with hva_ hvn_ hvc_; rw [hva_] at ge294_0; rw [hvc_] at ul294_0; have HL294_0 := Aside0.mk (show Kd.V Kd.string 9 _ w.heap.size _ _ (rd_L1 l0 x5_1) from Kd.V_mk ul294_0 ge294_0); clear hva_ hvn_ hvc_ ge294_0 ul294_0; clear hcc294 hce294; have HR294_0 := Aside0.mk hi294_0; have HC294_0 := Aside0.mk hl294_0; clear hi294_0 hl294_0; replace p294 := eq_true p294; replace q294 := eq_true q294; have ea_ := Option.some.inj (ad.symm.trans ac); injection ea_ with ea_ en_ ec_; subst ea_; subst ec_; clear en_) | (go_at_call 15; (with_reducible refine (carillonref19_Prefix.calls k2 _ _ (rd_L1 l0 x6_2) _ _ (rd_L1 l0 x5_1) true _ ?side1 ?side2 ?side3 ?side4 A10.out).mono ?_); (case side1 => repeat (first | exact (by repeat (first | (with_reducible exact HR293_0.out) | (with_reducible refine Kd.C_alloc ?_ _) | (with_reducible refine Kd.C_drewN ?_ _) | (with_reducible refine Kd.C_drew ?_) | exact HR293_0.out)) | (with_reducible refine Kd.C_alloc ?_ _) | (with_reducible refine Kd.C_drewN ?_ _) | (with_reducible refine Kd.C_drew ?_))); (case side2 => exact HC293_0.out); (case side3 => repeat (first | exact (by repeat (first | (with_reducible exact HR294_0.out) | (with_reducible refine Kd.C_alloc ?_ _) | (with_reducible refine Kd.C_drewN ?_ _) | (with_reducible refine Kd.C_drew ?_) | exact HR294_0.out)) | (with_reducible refine Kd.C_alloc ?_ _) | (with_reducible refine Kd.C_drewN ?_ _) | (with_reducible refine Kd.C_drew ?_))); (case side4 => exact HC294_0.out); rintro e w' ⟨rfl, ⟨nd, rfl⟩⟩; (try first | exact ⟨rfl, _, World.drewN_drewN _ _ _⟩ | exact ⟨rfl, _, Eq.trans (World.drewN_drewN _ _ _) (congrArg (World.drewN _) (Nat.add_assoc _ _ _))⟩)))
     repeat (go_quiet (first | (go_at_call 15; (with_reducible refine (carillonref19_Prefix.calls k2 _ _ (rd_L1 l0 x5_1) _ _ (rd_L1 l0 x6_2) false _ ?side1 ?side2 ?side3 ?side4 A9.out).mono ?_); (case side1 => repeat (first | exact (by repeat (first | (with_reducible exact HR290_0.out) | (with_reducible refine Kd.C_alloc ?_ _) | (with_reducible refine Kd.C_drewN ?_ _) | (with_reducible refine Kd.C_drew ?_) | exact HR290_0.out)) | (with_reducible refine Kd.C_alloc ?_ _) | (with_reducible refine Kd.C_drewN ?_ _) | (with_reducible refine Kd.C_drew ?_))); (case side2 => exact HC290_0.out); (case side3 => repeat (first | exact (by repeat (first | (with_reducible exact HR291_0.out) | (with_reducible refine Kd.C_alloc ?_ _) | (with_reducible refine Kd.C_drewN ?_ _) | (with_reducible refine Kd.C_drew ?_) | exact HR291_0.out)) | (with_reducible refine Kd.C_alloc ?_ _) | (with_reducible refine Kd.C_drewN ?_ _) | (with_reducible refine Kd.C_drew ?_))); (case side4 => exact HC291_0.out); rintro e w' ⟨rfl, ⟨nd, rfl⟩⟩; (try first | exact ⟨rfl, _, World.drewN_drewN _ _ _⟩ | exact ⟨rfl, _, Eq.trans (World.drewN_drewN _ _ _) (congrArg (World.drewN _) (Nat.add_assoc _ _ _))⟩); have p293 : 0 ≤ (x6_2 : Int) := od; have q293 : x6_2 < (l0.length : Int) := od; obtain ⟨ag, A293_0, c293_0, e293, ab, hl293_0, hi293_0⟩ := at_L1 (Kd.V_reads' aa.out).2.2 x6_2 p293 q293; obtain rfl : af = ag := (by injection e293); obtain ⟨ce293, hce293, hMe293, hcc293⟩ := Kd.V_get aa.out [] x6_2 p293 (by first | exact q293 | exact od | (have e_ := (Kd.V_reads' aa.out).1; omega)); obtain ⟨ua293_0, uc293_0, rfl, ul293_0, ge293_0⟩ := Kd.FK_slice_open hMe293; have hv293_0 := hcc293 0 _ rfl; rw [Nat.add_zero, show ((Kd.slice 9 Kd.string)).sz = 1 from rfl, Nat.mul_one] at hv293_0; replace hv293_0 := Option.some.inj (hv293_0.symm.trans ab); injection hv293_0 with hva_ hvn_ hvc_; rw [hva_] at ge293_0; rw [hvc_] at ul293_0; have HL293_0 := Aside0.mk (show Kd.V Kd.string 9 _ w.heap.size _ _ (rd_L1 l0 x6_2) from Kd.V_mk ul293_0 ge293_0); clear hva_ hvn_ hvc_ ge293_0 ul293_0; clear hcc293 hce293; have HR293_0 := Aside0.mk hi293_0; have HC293_0 := Aside0.mk hl293_0; clear hi293_0 hl293_0; replace p293 := eq_true p293; replace q293 := eq_true q293; have ea_ := Option.some.inj (ae.symm.trans ab); injection ea_ with ea_ en_ ec_; subst ea_; subst ec_; clear en_; have p294 : 0 ≤ (x5_1 : Int) := od; have q294 : x5_1 < (l0.length : Int) := od; obtain ⟨ah, A294_0, c294_0, e294, ac, hl294_0, hi294_0⟩ := at_L1 (Kd.V_reads' aa.out).2.2 x5_1 p294 q294; obtain rfl : af = ah := (by injection e294); obtain ⟨ce294, hce294, hMe294, hcc294⟩ := Kd.V_get aa.out [] x5_1 p294 (by first | exact q294 | exact od | (have e_ := (Kd.V_reads' aa.out).1; omega)); obtain ⟨ua294_0, uc294_0, rfl, ul294_0, ge294_0⟩ := Kd.FK_slice_open hMe294; have hv294_0 := hcc294 0 _ rfl; rw [Nat.add_zero, show ((Kd.slice 9 Kd.string)).sz = 1 from rfl, Nat.mul_one] at hv294_0; replace hv294_0 := Option.some.inj (hv294_0.symm.trans ac); injection hv294_0 with hva_ hvn_ hvc_; rw [hva_] at ge294_0; rw [hvc_] at ul294_0; have HL294_0 := Aside0.mk (show Kd.V Kd.string 9 _ w.heap.size _ _ (rd_L1 l0 x5_1) from Kd.V_mk ul294_0 ge294_0); clear hva_ hvn_ hvc_ ge294_0 ul294_0; clear hcc294 hce294; have HR294_0 := Aside0.mk hi294_0; have HC294_0 := Aside0.mk hl294_0; clear hi294_0 hl294_0; replace p294 := eq_true p294; replace q294 := eq_true q294; have ea_ := Option.some.inj (ad.symm.trans ac); injection ea_ with ea_ en_ ec_; subst ea_; subst ec_; clear en_) | (go_at_call 15; (with_reducible refine (carillonref19_Prefix.calls k2 _ _ (rd_L1 l0 x6_2) _ _ (rd_L1 l0 x5_1) true _ ?side1 ?side2 ?side3 ?side4 A10.out).mono ?_); (case side1 => repeat (first | exact (by repeat (first | (with_reducible exact HR293_0.out) | (with_reducible refine Kd.C_alloc ?_ _) | (with_reducible refine Kd.C_drewN ?_ _) | (with_reducible refine Kd.C_drew ?_) | exact HR293_0.out)) | (with_reducible refine Kd.C_alloc ?_ _) | (with_reducible refine Kd.C_drewN ?_ _) | (with_reducible refine Kd.C_drew ?_))); (case side2 => exact HC293_0.out); (case side3 => repeat (first | exact (by repeat (first | (with_reducible exact HR294_0.out) | (with_reducible refine Kd.C_alloc ?_ _) | (with_reducible refine Kd.C_drewN ?_ _) | (with_reducible refine Kd.C_drew ?_) | exact HR294_0.out)) | (with_reducible refine Kd.C_alloc ?_ _) | (with_reducible refine Kd.C_drewN ?_ _) | (with_reducible refine Kd.C_drew ?_))); (case side4 => exact HC294_0.out); rintro e w' ⟨rfl, ⟨nd, rfl⟩⟩; (try first | exact ⟨rfl, _, World.drewN_drewN _ _ _⟩ | exact ⟨rfl, _, Eq.trans (World.drewN_drewN _ _ _) (congrArg (World.drewN _) (Nat.add_assoc _ _ _))⟩))); try go_wp2_with (first | (go_at_call 15; (with_reducible refine (carillonref19_Prefix.calls k2 _ _ (rd_L1 l0 x5_1) _ _ (rd_L1 l0 x6_2) false _ ?side1 ?side2 ?side3 ?side4 A9.out).mono ?_); (case side1 => repeat (first | exact (by repeat (first | (with_reducible exact HR290_0.out) | (with_reducible refine Kd.C_alloc ?_ _) | (with_reducible refine Kd.C_drewN ?_ _) | (with_reducible refine Kd.C_drew ?_) | exact HR290_0.out)) | (with_reducible refine Kd.C_alloc ?_ _) | (with_reducible refine Kd.C_drewN ?_ _) | (with_reducible refine Kd.C_drew ?_))); (case side2 => exact HC290_0.out); (case side3 => repeat (first | exact (by repeat (first | (with_reducible exact HR291_0.out) | (with_reducible refine Kd.C_alloc ?_ _) | (with_reducible refine Kd.C_drewN ?_ _) | (with_reducible refine Kd.C_drew ?_) | exact HR291_0.out)) | (with_reducible refine Kd.C_alloc ?_ _) | (with_reducible refine Kd.C_drewN ?_ _) | (with_reducible refine Kd.C_drew ?_))); (case side4 => exact HC291_0.out); rintro e w' ⟨rfl, ⟨nd, rfl⟩⟩; (try first | exact ⟨rfl, _, World.drewN_drewN _ _ _⟩ | exact ⟨rfl, _, Eq.trans (World.drewN_drewN _ _ _) (congrArg (World.drewN _) (Nat.add_assoc _ _ _))⟩); have p293 : 0 ≤ (x6_2 : Int) := od; have q293 : x6_2 < (l0.length : Int) := od; obtain ⟨ag, A293_0, c293_0, e293, ab, hl293_0, hi293_0⟩ := at_L1 (Kd.V_reads' aa.out).2.2 x6_2 p293 q293; obtain rfl : af = ag := (by injection e293); obtain ⟨ce293, hce293, hMe293, hcc293⟩ := Kd.V_get aa.out [] x6_2 p293 (by first | exact q293 | exact od | (have e_ := (Kd.V_reads' aa.out).1; omega)); obtain ⟨ua293_0, uc293_0, rfl, ul293_0, ge293_0⟩ := Kd.FK_slice_open hMe293; have hv293_0 := hcc293 0 _ rfl; rw [Nat.add_zero, show ((Kd.slice 9 Kd.string)).sz = 1 from rfl, Nat.mul_one] at hv293_0; replace hv293_0 := Option.some.inj (hv293_0.symm.trans ab); injection hv293_0 with hva_ hvn_ hvc_; rw [hva_] at ge293_0; rw [hvc_] at ul293_0; have HL293_0 := Aside0.mk (show Kd.V Kd.string 9 _ w.heap.size _ _ (rd_L1 l0 x6_2) from Kd.V_mk ul293_0 ge293_0); clear hva_ hvn_ hvc_ ge293_0 ul293_0; clear hcc293 hce293; have HR293_0 := Aside0.mk hi293_0; have HC293_0 := Aside0.mk hl293_0; clear hi293_0 hl293_0; replace p293 := eq_true p293; replace q293 := eq_true q293; have ea_ := Option.some.inj (ae.symm.trans ab); injection ea_ with ea_ en_ ec_; subst ea_; subst ec_; clear en_; have p294 : 0 ≤ (x5_1 : Int) := od; have q294 : x5_1 < (l0.length : Int) := od; obtain ⟨ah, A294_0, c294_0, e294, ac, hl294_0, hi294_0⟩ := at_L1 (Kd.V_reads' aa.out).2.2 x5_1 p294 q294; obtain rfl : af = ah := (by injection e294); obtain ⟨ce294, hce294, hMe294, hcc294⟩ := Kd.V_get aa.out [] x5_1 p294 (by first | exact q294 | exact od | (have e_ := (Kd.V_reads' aa.out).1; omega)); obtain ⟨ua294_0, uc294_0, rfl, ul294_0, ge294_0⟩ := Kd.FK_slice_open hMe294; have hv294_0 := hcc294 0 _ rfl; rw [Nat.add_zero, show ((Kd.slice 9 Kd.string)).sz = 1 from rfl, Nat.mul_one] at hv294_0; replace hv294_0 := Option.some.inj (hv294_0.symm.trans ac); injection hv294_0 with hva_ hvn_ hvc_; rw [hva_] at ge294_0; rw [hvc_] at ul294_0; have HL294_0 := Aside0.mk (show Kd.V Kd.string 9 _ w.heap.size _ _ (rd_L1 l0 x5_1) from Kd.V_mk ul294_0 ge294_0); clear hva_ hvn_ hvc_ ge294_0 ul294_0; clear hcc294 hce294; have HR294_0 := Aside0.mk hi294_0; have HC294_0 := Aside0.mk hl294_0; clear hi294_0 hl294_0; replace p294 := eq_true p294; replace q294 := eq_true q294; have ea_ := Option.some.inj (ad.symm.trans ac); injection ea_ with ea_ en_ ec_; subst ea_; subst ec_; clear en_) | (go_at_call 15; (with_reducible refine (carillonref19_Prefix.calls k2 _ _ (rd_L1 l0 x6_2) _ _ (rd_L1 l0 x5_1) true _ ?side1 ?side2 ?side3 ?side4 A10.out).mono ?_); (case side1 => repeat (first | exact (by repeat (first | (with_reducible exact HR293_0.out) | (with_reducible refine Kd.C_alloc ?_ _) | (with_reducible refine Kd.C_drewN ?_ _) | (with_reducible refine Kd.C_drew ?_) | exact HR293_0.out)) | (with_reducible refine Kd.C_alloc ?_ _) | (with_reducible refine Kd.C_drewN ?_ _) | (with_reducible refine Kd.C_drew ?_))); (case side2 => exact HC293_0.out); (case side3 => repeat (first | exact (by repeat (first | (with_reducible exact HR294_0.out) | (with_reducible refine Kd.C_alloc ?_ _) | (with_reducible refine Kd.C_drewN ?_ _) | (with_reducible refine Kd.C_drew ?_) | exact HR294_0.out)) | (with_reducible refine Kd.C_alloc ?_ _) | (with_reducible refine Kd.C_drewN ?_ _) | (with_reducible refine Kd.C_drew ?_))); (case side4 => exact HC294_0.out); rintro e w' ⟨rfl, ⟨nd, rfl⟩⟩; (try first | exact ⟨rfl, _, World.drewN_drewN _ _ _⟩ | exact ⟨rfl, _, Eq.trans (World.drewN_drewN _ _ _) (congrArg (World.drewN _) (Nat.add_assoc _ _ _))⟩))))
     go_roundg k2
     case measure => have := HK1.out; have := HK2.out; omega
     case rel => exact ⟨(wrap64 (x6_2 + 1)), (by first | rfl | (simp; done) | (simp [*]; done)), H', ⟨by have := HK1.out; have := HK2.out; omega⟩, ⟨by (with_reducible repeat (first | apply Kd.V_alloc | apply Kd.V_drewN | apply Kd.V_drew)); exact aa.out⟩, ⟨bw⟩⟩

end Go.Proofs.YtokebimfflobbaaDoor.P
