-- Printed by this session's program wip/xp.py (a turned copy of the kit's printer): functions, their contracts.
import Derived.Test.YtocgbfcjmgpleaaDoorPx0
import Derived.Test.YtocgbfcjmgpleaaDoorPx1
import Derived.Test.YtocgbfcjmgpleaaDoorPx2
import Derived.Test.YtocgbfcjmgpleaaDoorPx5
import Derived.Test.YtocgbfcjmgpleaaDoorPx6
import Derived.Test.YtocgbfcjmgpleaaDoorPx7
import Derived.Test.YtocgbfcjmgpleaaDoorPx8
import Derived.Test.YtocgbfcjmgpleaaDoorPx13
namespace Go.Proofs.YtocgbfcjmgpleaaDoor.P
open Go.RowKit Go.Proofs.YtocgbfcjmgpleaaDoorW.PrintWords Go.Proofs.YtocgbfcjmgpleaaDoorW.PrintLast Go.Proofs.YtocgbfcjmgpleaaDoorW.PrintMore
attribute [local go_sem] max2_int min2_int max_two min_two max_three min_three max_four min_four   -- for this text's walks alone
set_option linter.unusedVariables false
set_option linter.unusedSimpArgs false

attribute [local go_sem high] eqA23 eqA25
/-! ### carillonlaw10_AcceptorKeeps: function 4 -/
mutual
def carillonlaw10_AcceptorKeeps.l0 : Nat → List (S39) → Bool → Int → Int → Int → Int → Int → ByteArray → Option (Bool)
 | 0, _, _, _, _, _, _, _, _ => none
 | k + 1, x0, x3, x5, x357000, x357001, x357002, x357003, x357004 => if x5 < (x0.length : Int) then (carillonlaw10_AcceptorKeeps.j1 k x0 x3 x5 (decide (x5 < 100)) x357000 x357001 x357002 x357003 x357004) else (carillonlaw10_AcceptorKeeps.j1 k x0 x3 x5 false x357000 x357001 x357002 x357003 x357004)
def carillonlaw10_AcceptorKeeps.j1 : Nat → List (S39) → Bool → Int → Bool → Int → Int → Int → Int → ByteArray → Option (Bool)
 | 0, _, _, _, _, _, _, _, _, _ => none
 | k + 1, x0, x3, x5, x21, x357000, x357001, x357002, x357003, x357004 => if x21 = true then (if 0 ≤ x5 then (if x5 < (x0.length : Int) then ((acceptor_Prepare.f x357000 x357001 x357002 x357003 x357004 ((rd_T39 x0 x5).f0.f0) ((rd_T39 x0 x5).f0.f1)).bind fun bt368 => (if (rd_T39 x0 x5).f1 = true then ((acceptor_Take.f x357000 x357001 x357002 x357003 x357004 ((rd_T39 x0 x5).f0.f0) ((rd_T39 x0 x5).f0.f1) ((rd_T39 x0 x5).f2)).bind fun bt375 => (carillonlaw10_AcceptorKeeps.j2 k x0 x3 x5 bt375.2.2.2.2.2 x357000 x357001 x357002 x357003 x357004 ((rd_T39 x0 x5).f0.f0) ((rd_T39 x0 x5).f0.f1) ((rd_T39 x0 x5).f1) ((rd_T39 x0 x5).f2) bt375.1 bt375.2.1 bt375.2.2.1 bt375.2.2.2.1 bt375.2.2.2.2.1)) else (carillonlaw10_AcceptorKeeps.j2 k x0 x3 x5 bt368.2.2.2.2.2 x357000 x357001 x357002 x357003 x357004 ((rd_T39 x0 x5).f0.f0) ((rd_T39 x0 x5).f0.f1) ((rd_T39 x0 x5).f1) ((rd_T39 x0 x5).f2) bt368.1 bt368.2.1 bt368.2.2.1 bt368.2.2.2.1 bt368.2.2.2.2.1))) else (none)) else (none)) else ((acceptor_Encode.f k x357000 x357001 x357002 x357003 x357004).bind fun bt357 => ((acceptor_Decode.f k bt357.1).bind fun bt359 => (if x3 = true then (if bt357.2 = 0 then (if bt359.2.2.2.2.2 = 0 then (some ((bt359.1 == x357000 && (bt359.2.1 == x357001)) && ((bt359.2.2.1 == x357002 && (bt359.2.2.2.1 == x357003)) && (bt359.2.2.2.2.1.toList == x357004.toList)))) else (some false)) else (some false)) else (some false))))
def carillonlaw10_AcceptorKeeps.j2 : Nat → List (S39) → Bool → Int → Bool → Int → Int → Int → Int → ByteArray → Int → Int → Bool → ByteArray → Int → Int → Int → Int → ByteArray → Option (Bool)
 | 0, _, _, _, _, _, _, _, _, _, _, _, _, _, _, _, _, _, _ => none
 | k + 1, x0, x3, x5, x8, x357000, x357001, x357002, x357003, x357004, x368000, x368001, x368002, x368003, x375000, x375001, x375002, x375003, x375004 => if x8 = true then ((acceptor_Less.f x368000 x368001 x357000 x357001).bind fun t381 => (carillonlaw10_AcceptorKeeps.j3 k x0 x3 x5 x8 t381 x357000 x357001 x357002 x357003 x357004 x368000 x368001 x368002 x368003 x375000 x375001 x375002 x375003 x375004)) else (if ((!(x375000 == x357000) || (!(x375001 == x357001))) || ((!(x375002 == x357002) || (!(x375003 == x357003))) || (!(x375004.toList == x357004.toList)))) = true then (carillonlaw10_AcceptorKeeps.j3 k x0 x3 x5 x8 true x357000 x357001 x357002 x357003 x357004 x368000 x368001 x368002 x368003 x375000 x375001 x375002 x375003 x375004) else (carillonlaw10_AcceptorKeeps.j3 k x0 x3 x5 x8 false x357000 x357001 x357002 x357003 x357004 x368000 x368001 x368002 x368003 x375000 x375001 x375002 x375003 x375004))
def carillonlaw10_AcceptorKeeps.j3 : Nat → List (S39) → Bool → Int → Bool → Bool → Int → Int → Int → Int → ByteArray → Int → Int → Bool → ByteArray → Int → Int → Int → Int → ByteArray → Option (Bool)
 | 0, _, _, _, _, _, _, _, _, _, _, _, _, _, _, _, _, _, _, _ => none
 | k + 1, x0, x3, x5, x8, x62, x357000, x357001, x357002, x357003, x357004, x368000, x368001, x368002, x368003, x375000, x375001, x375002, x375003, x375004 => if x62 = true then (some false) else ((acceptor_Less.f x375000 x375001 x357000 x357001).bind fun t382 => (if t382 = true then (carillonlaw10_AcceptorKeeps.j4 k x0 x3 x5 x8 true x357000 x357001 x357002 x357003 x357004 x368000 x368001 x368002 x368003 x375000 x375001 x375002 x375003 x375004) else ((acceptor_Less.f x375002 x375003 x357002 x357003).bind fun t383 => (if t383 = true then (carillonlaw10_AcceptorKeeps.j4 k x0 x3 x5 x8 true x357000 x357001 x357002 x357003 x357004 x368000 x368001 x368002 x368003 x375000 x375001 x375002 x375003 x375004) else ((acceptor_Less.f x375000 x375001 x375002 x375003).bind fun t384 => (carillonlaw10_AcceptorKeeps.j4 k x0 x3 x5 x8 t384 x357000 x357001 x357002 x357003 x357004 x368000 x368001 x368002 x368003 x375000 x375001 x375002 x375003 x375004))))))
def carillonlaw10_AcceptorKeeps.j4 : Nat → List (S39) → Bool → Int → Bool → Bool → Int → Int → Int → Int → ByteArray → Int → Int → Bool → ByteArray → Int → Int → Int → Int → ByteArray → Option (Bool)
 | 0, _, _, _, _, _, _, _, _, _, _, _, _, _, _, _, _, _, _, _ => none
 | k + 1, x0, x3, x5, x8, x81, x357000, x357001, x357002, x357003, x357004, x368000, x368001, x368002, x368003, x375000, x375001, x375002, x375003, x375004 => if x81 = true then (some false) else (if (x375002 == x357002 && (x375003 == x357003)) = true then (if x375004.toList = x357004.toList then (if x8 = true then (if x368002 = true then (if (!(x375002 == x368000) || (!(x375003 == x368001))) = true then (some false) else (if x375004.toList = x368003.toList then (carillonlaw10_AcceptorKeeps.l0 k x0 x3 (wrap64 (x5 + 1)) x375000 x375001 x375002 x375003 x375004) else (some false))) else (carillonlaw10_AcceptorKeeps.l0 k x0 x3 (wrap64 (x5 + 1)) x375000 x375001 x375002 x375003 x375004)) else (carillonlaw10_AcceptorKeeps.l0 k x0 x3 (wrap64 (x5 + 1)) x375000 x375001 x375002 x375003 x375004)) else (some false)) else (if x8 = true then (if x368002 = true then (if (!(x375002 == x368000) || (!(x375003 == x368001))) = true then (some false) else (if x375004.toList = x368003.toList then (carillonlaw10_AcceptorKeeps.l0 k x0 x3 (wrap64 (x5 + 1)) x375000 x375001 x375002 x375003 x375004) else (some false))) else (carillonlaw10_AcceptorKeeps.l0 k x0 x3 (wrap64 (x5 + 1)) x375000 x375001 x375002 x375003 x375004)) else (carillonlaw10_AcceptorKeeps.l0 k x0 x3 (wrap64 (x5 + 1)) x375000 x375001 x375002 x375003 x375004)))
end
def carillonlaw10_AcceptorKeeps.f (k : Nat) (l0 : List (S39)) : Option (Bool) := (carillonlaw10_examples.f).bind fun t355 => (carillonlaw10_AcceptorKeeps.l0 k l0 t355 0 0 0 0 0 (⟨#[]⟩ : ByteArray))
theorem carillonlaw10_AcceptorKeeps.mono_l : ∀ k, (∀ y0 y1 y2 y3 y4 y5 y6 y7, LeO (carillonlaw10_AcceptorKeeps.l0 k y0 y1 y2 y3 y4 y5 y6 y7) (carillonlaw10_AcceptorKeeps.l0 (k + 1) y0 y1 y2 y3 y4 y5 y6 y7)) ∧ (∀ y0 y1 y2 y3 y4 y5 y6 y7 y8, LeO (carillonlaw10_AcceptorKeeps.j1 k y0 y1 y2 y3 y4 y5 y6 y7 y8) (carillonlaw10_AcceptorKeeps.j1 (k + 1) y0 y1 y2 y3 y4 y5 y6 y7 y8)) ∧ (∀ y0 y1 y2 y3 y4 y5 y6 y7 y8 y9 y10 y11 y12 y13 y14 y15 y16 y17, LeO (carillonlaw10_AcceptorKeeps.j2 k y0 y1 y2 y3 y4 y5 y6 y7 y8 y9 y10 y11 y12 y13 y14 y15 y16 y17) (carillonlaw10_AcceptorKeeps.j2 (k + 1) y0 y1 y2 y3 y4 y5 y6 y7 y8 y9 y10 y11 y12 y13 y14 y15 y16 y17)) ∧ (∀ y0 y1 y2 y3 y4 y5 y6 y7 y8 y9 y10 y11 y12 y13 y14 y15 y16 y17 y18, LeO (carillonlaw10_AcceptorKeeps.j3 k y0 y1 y2 y3 y4 y5 y6 y7 y8 y9 y10 y11 y12 y13 y14 y15 y16 y17 y18) (carillonlaw10_AcceptorKeeps.j3 (k + 1) y0 y1 y2 y3 y4 y5 y6 y7 y8 y9 y10 y11 y12 y13 y14 y15 y16 y17 y18)) ∧ (∀ y0 y1 y2 y3 y4 y5 y6 y7 y8 y9 y10 y11 y12 y13 y14 y15 y16 y17 y18, LeO (carillonlaw10_AcceptorKeeps.j4 k y0 y1 y2 y3 y4 y5 y6 y7 y8 y9 y10 y11 y12 y13 y14 y15 y16 y17 y18) (carillonlaw10_AcceptorKeeps.j4 (k + 1) y0 y1 y2 y3 y4 y5 y6 y7 y8 y9 y10 y11 y12 y13 y14 y15 y16 y17 y18))
 | 0 => ⟨fun _ _ _ _ _ _ _ _ r h => by simp [carillonlaw10_AcceptorKeeps.l0] at h, fun _ _ _ _ _ _ _ _ _ r h => by simp [carillonlaw10_AcceptorKeeps.j1] at h, fun _ _ _ _ _ _ _ _ _ _ _ _ _ _ _ _ _ _ r h => by simp [carillonlaw10_AcceptorKeeps.j2] at h, fun _ _ _ _ _ _ _ _ _ _ _ _ _ _ _ _ _ _ _ r h => by simp [carillonlaw10_AcceptorKeeps.j3] at h, fun _ _ _ _ _ _ _ _ _ _ _ _ _ _ _ _ _ _ _ r h => by simp [carillonlaw10_AcceptorKeeps.j4] at h⟩
 | k + 1 => by
  obtain ⟨ih0, ih1, ih2, ih3, ih4⟩ := carillonlaw10_AcceptorKeeps.mono_l k
  refine ⟨?_, ?_, ?_, ?_, ?_⟩
  ·intro y0 y1 y2 y3 y4 y5 y6 y7
   unfold carillonlaw10_AcceptorKeeps.l0
   repeat' first
   | (with_reducible exact ih0 _ _ _ _ _ _ _ _)
   | (with_reducible exact ih1 _ _ _ _ _ _ _ _ _)
   | (with_reducible exact ih2 _ _ _ _ _ _ _ _ _ _ _ _ _ _ _ _ _ _)
   | (with_reducible exact ih3 _ _ _ _ _ _ _ _ _ _ _ _ _ _ _ _ _ _ _)
   | (with_reducible exact ih4 _ _ _ _ _ _ _ _ _ _ _ _ _ _ _ _ _ _ _)
   | (with_reducible exact acceptor_Decode.mono _ _)
   | (with_reducible exact acceptor_Encode.mono _ _ _ _ _ _)
   | (with_reducible exact LeO.refl _)
   | (with_reducible exact LeO.none _)
   | (with_reducible refine LeO.ite ?_ ?_)
   | (with_reducible refine LeO.bind ?_ (fun _ => ?_))
   | exact ih0 _ _ _ _ _ _ _ _
   | exact ih1 _ _ _ _ _ _ _ _ _
   | exact ih2 _ _ _ _ _ _ _ _ _ _ _ _ _ _ _ _ _ _
   | exact ih3 _ _ _ _ _ _ _ _ _ _ _ _ _ _ _ _ _ _ _
   | exact ih4 _ _ _ _ _ _ _ _ _ _ _ _ _ _ _ _ _ _ _
   | exact acceptor_Decode.mono _ _
   | exact acceptor_Encode.mono _ _ _ _ _ _
   | exact LeO.none _
   | refine LeO.ite ?_ ?_
   | refine LeO.bind ?_ (fun _ => ?_)
  ·intro y0 y1 y2 y3 y4 y5 y6 y7 y8
   unfold carillonlaw10_AcceptorKeeps.j1
   repeat' first
   | (with_reducible exact ih0 _ _ _ _ _ _ _ _)
   | (with_reducible exact ih1 _ _ _ _ _ _ _ _ _)
   | (with_reducible exact ih2 _ _ _ _ _ _ _ _ _ _ _ _ _ _ _ _ _ _)
   | (with_reducible exact ih3 _ _ _ _ _ _ _ _ _ _ _ _ _ _ _ _ _ _ _)
   | (with_reducible exact ih4 _ _ _ _ _ _ _ _ _ _ _ _ _ _ _ _ _ _ _)
   | (with_reducible exact acceptor_Decode.mono _ _)
   | (with_reducible exact acceptor_Encode.mono _ _ _ _ _ _)
   | (with_reducible exact LeO.refl _)
   | (with_reducible exact LeO.none _)
   | (with_reducible refine LeO.ite ?_ ?_)
   | (with_reducible refine LeO.bind ?_ (fun _ => ?_))
   | exact ih0 _ _ _ _ _ _ _ _
   | exact ih1 _ _ _ _ _ _ _ _ _
   | exact ih2 _ _ _ _ _ _ _ _ _ _ _ _ _ _ _ _ _ _
   | exact ih3 _ _ _ _ _ _ _ _ _ _ _ _ _ _ _ _ _ _ _
   | exact ih4 _ _ _ _ _ _ _ _ _ _ _ _ _ _ _ _ _ _ _
   | exact acceptor_Decode.mono _ _
   | exact acceptor_Encode.mono _ _ _ _ _ _
   | exact LeO.none _
   | refine LeO.ite ?_ ?_
   | refine LeO.bind ?_ (fun _ => ?_)
  ·intro y0 y1 y2 y3 y4 y5 y6 y7 y8 y9 y10 y11 y12 y13 y14 y15 y16 y17
   unfold carillonlaw10_AcceptorKeeps.j2
   repeat' first
   | (with_reducible exact ih0 _ _ _ _ _ _ _ _)
   | (with_reducible exact ih1 _ _ _ _ _ _ _ _ _)
   | (with_reducible exact ih2 _ _ _ _ _ _ _ _ _ _ _ _ _ _ _ _ _ _)
   | (with_reducible exact ih3 _ _ _ _ _ _ _ _ _ _ _ _ _ _ _ _ _ _ _)
   | (with_reducible exact ih4 _ _ _ _ _ _ _ _ _ _ _ _ _ _ _ _ _ _ _)
   | (with_reducible exact acceptor_Decode.mono _ _)
   | (with_reducible exact acceptor_Encode.mono _ _ _ _ _ _)
   | (with_reducible exact LeO.refl _)
   | (with_reducible exact LeO.none _)
   | (with_reducible refine LeO.ite ?_ ?_)
   | (with_reducible refine LeO.bind ?_ (fun _ => ?_))
   | exact ih0 _ _ _ _ _ _ _ _
   | exact ih1 _ _ _ _ _ _ _ _ _
   | exact ih2 _ _ _ _ _ _ _ _ _ _ _ _ _ _ _ _ _ _
   | exact ih3 _ _ _ _ _ _ _ _ _ _ _ _ _ _ _ _ _ _ _
   | exact ih4 _ _ _ _ _ _ _ _ _ _ _ _ _ _ _ _ _ _ _
   | exact acceptor_Decode.mono _ _
   | exact acceptor_Encode.mono _ _ _ _ _ _
   | exact LeO.none _
   | refine LeO.ite ?_ ?_
   | refine LeO.bind ?_ (fun _ => ?_)
  ·intro y0 y1 y2 y3 y4 y5 y6 y7 y8 y9 y10 y11 y12 y13 y14 y15 y16 y17 y18
   unfold carillonlaw10_AcceptorKeeps.j3
   repeat' first
   | (with_reducible exact ih0 _ _ _ _ _ _ _ _)
   | (with_reducible exact ih1 _ _ _ _ _ _ _ _ _)
   | (with_reducible exact ih2 _ _ _ _ _ _ _ _ _ _ _ _ _ _ _ _ _ _)
   | (with_reducible exact ih3 _ _ _ _ _ _ _ _ _ _ _ _ _ _ _ _ _ _ _)
   | (with_reducible exact ih4 _ _ _ _ _ _ _ _ _ _ _ _ _ _ _ _ _ _ _)
   | (with_reducible exact acceptor_Decode.mono _ _)
   | (with_reducible exact acceptor_Encode.mono _ _ _ _ _ _)
   | (with_reducible exact LeO.refl _)
   | (with_reducible exact LeO.none _)
   | (with_reducible refine LeO.ite ?_ ?_)
   | (with_reducible refine LeO.bind ?_ (fun _ => ?_))
   | exact ih0 _ _ _ _ _ _ _ _
   | exact ih1 _ _ _ _ _ _ _ _ _
   | exact ih2 _ _ _ _ _ _ _ _ _ _ _ _ _ _ _ _ _ _
   | exact ih3 _ _ _ _ _ _ _ _ _ _ _ _ _ _ _ _ _ _ _
   | exact ih4 _ _ _ _ _ _ _ _ _ _ _ _ _ _ _ _ _ _ _
   | exact acceptor_Decode.mono _ _
   | exact acceptor_Encode.mono _ _ _ _ _ _
   | exact LeO.none _
   | refine LeO.ite ?_ ?_
   | refine LeO.bind ?_ (fun _ => ?_)
  ·intro y0 y1 y2 y3 y4 y5 y6 y7 y8 y9 y10 y11 y12 y13 y14 y15 y16 y17 y18
   unfold carillonlaw10_AcceptorKeeps.j4
   repeat' first
   | (with_reducible exact ih0 _ _ _ _ _ _ _ _)
   | (with_reducible exact ih1 _ _ _ _ _ _ _ _ _)
   | (with_reducible exact ih2 _ _ _ _ _ _ _ _ _ _ _ _ _ _ _ _ _ _)
   | (with_reducible exact ih3 _ _ _ _ _ _ _ _ _ _ _ _ _ _ _ _ _ _ _)
   | (with_reducible exact ih4 _ _ _ _ _ _ _ _ _ _ _ _ _ _ _ _ _ _ _)
   | (with_reducible exact acceptor_Decode.mono _ _)
   | (with_reducible exact acceptor_Encode.mono _ _ _ _ _ _)
   | (with_reducible exact LeO.refl _)
   | (with_reducible exact LeO.none _)
   | (with_reducible refine LeO.ite ?_ ?_)
   | (with_reducible refine LeO.bind ?_ (fun _ => ?_))
   | exact ih0 _ _ _ _ _ _ _ _
   | exact ih1 _ _ _ _ _ _ _ _ _
   | exact ih2 _ _ _ _ _ _ _ _ _ _ _ _ _ _ _ _ _ _
   | exact ih3 _ _ _ _ _ _ _ _ _ _ _ _ _ _ _ _ _ _ _
   | exact ih4 _ _ _ _ _ _ _ _ _ _ _ _ _ _ _ _ _ _ _
   | exact acceptor_Decode.mono _ _
   | exact acceptor_Encode.mono _ _ _ _ _ _
   | exact LeO.none _
   | refine LeO.ite ?_ ?_
   | refine LeO.bind ?_ (fun _ => ?_)
theorem carillonlaw10_AcceptorKeeps.mono : ∀ a0 k, LeO (carillonlaw10_AcceptorKeeps.f k a0) (carillonlaw10_AcceptorKeeps.f (k + 1) a0) := by
 intro a0 k
 obtain ⟨ih0, ih1, ih2, ih3, ih4⟩ := carillonlaw10_AcceptorKeeps.mono_l k
 unfold carillonlaw10_AcceptorKeeps.f
 repeat' first
   | (with_reducible exact ih0 _ _ _ _ _ _ _ _)
   | (with_reducible exact ih1 _ _ _ _ _ _ _ _ _)
   | (with_reducible exact ih2 _ _ _ _ _ _ _ _ _ _ _ _ _ _ _ _ _ _)
   | (with_reducible exact ih3 _ _ _ _ _ _ _ _ _ _ _ _ _ _ _ _ _ _ _)
   | (with_reducible exact ih4 _ _ _ _ _ _ _ _ _ _ _ _ _ _ _ _ _ _ _)
   | (with_reducible exact acceptor_Decode.mono _ _)
   | (with_reducible exact acceptor_Encode.mono _ _ _ _ _ _)
   | (with_reducible exact LeO.refl _)
   | (with_reducible exact LeO.none _)
   | (with_reducible refine LeO.ite ?_ ?_)
   | (with_reducible refine LeO.bind ?_ (fun _ => ?_))
   | exact ih0 _ _ _ _ _ _ _ _
   | exact ih1 _ _ _ _ _ _ _ _ _
   | exact ih2 _ _ _ _ _ _ _ _ _ _ _ _ _ _ _ _ _ _
   | exact ih3 _ _ _ _ _ _ _ _ _ _ _ _ _ _ _ _ _ _ _
   | exact ih4 _ _ _ _ _ _ _ _ _ _ _ _ _ _ _ _ _ _ _
   | exact acceptor_Decode.mono _ _
   | exact acceptor_Encode.mono _ _ _ _ _ _
   | exact LeO.none _
   | refine LeO.ite ?_ ?_
   | refine LeO.bind ?_ (fun _ => ?_)
set_option maxHeartbeats 8000000 in
set_option maxRecDepth 100000 in
theorem carillonlaw10_AcceptorKeeps.calls (k : Nat) (A0 : Option Addr) (c0 : Nat) (l0 : List (S39)) (r : Bool) (w : World) (hr0 : Kd.C k39 w A0 l0.length l0) (hc0 : l0.length ≤ c0) (hr_ : Aside0 (r = true)) (HT_ : TabOk w) (h : carillonlaw10_AcceptorKeeps.f k l0 = some r) :
  Calls Tryd.prog 4 #[.slice A0 l0.length c0] w fun e w' => e = .returned (.bool r) ∧ Below w.heap.size w w' := by
 have HT := Aside0.mk HT_
 clear HT_
 have hu25 := Tryd.underlying25
 have hu39 := Tryd.underlying39
 have hu23 := Tryd.underlying23
 have HR0 := Aside0.mk hr0
 have HC0 := Aside0.mk hc0
 clear hr0 hc0
 have HB := Aside0.mk (Below.refl w.heap.size w)
 have H : ((carillonlaw10_examples.f).bind fun t355 => (carillonlaw10_AcceptorKeeps.l0 k l0 t355 0 0 0 0 0 (⟨#[]⟩ : ByteArray))) = some r := h
 clear h
 replace H := Option.bind_eq_some_iff.mp H
 obtain ⟨t355, A20, H⟩ := H
 replace H : (carillonlaw10_AcceptorKeeps.l0 k l0 t355 0 0 0 0 0 (⟨#[]⟩ : ByteArray)) = some r := H
 have A2 := Aside0.mk A20
 clear A20
 have H' := Aside0.mk H
 clear H
 go_enter Tryd.func4, Tryd.ntmps4
 go_wp2_with (first | ((with_reducible refine gate_callee (f := 6) rfl ?_); refine goesL_ (some 13) rfl rfl Tryd.func6 (by kernel_rfl) rfl #[] rfl am ?_; (with_reducible refine (carillonlaw10_examples.calls  t355 _ A2.out).mono ?_); rintro e w3 ⟨rfl, hb⟩; refine ⟨_, rfl, ?_⟩; have n0_ := Aside0.mk (below_step bw hb); clear HB; have HB := n0_; clear n0_; (try clear hb); (try clear hb2); (try clear hk); (try clear hi)) | ((with_reducible refine gate_dst (N := 4) rfl ?_); refine box_event ?hg (N := 4) ?hd (cs := #[.int .i64 0, .int .i64 0, .int .i64 0, .int .i64 0, .string (⟨#[]⟩ : ByteArray)]) (t := 25) ?hr ?_; (case hd => rfl); (case hg => rfl); (case hr => first | (go_simp; done) | (go_simp; rfl)); intro gb356 hg w4 hbox hb; have n0_ := Aside0.mk (below_step bw hb); have n1_ := Aside0.mk (hbox); have n2_ := Aside0.mk ((g1 hg bw : w.heap.size ≤ gb356)); have n3_ := Aside0.mk ((g1 hg bw : w.heap.size ≤ gb356)); clear HB; have HB := n0_; have BK356 := n1_; have GW356 := n2_; have GE356 := n3_; clear n0_ n1_ n2_ n3_; clear hb hbox hg))
 go_loopg [5] k (fun kq v5 w' => ∃ (x5_1 : Int) (x357000_1 : Int) (x357001_1 : Int) (x357002_1 : Int) (x357003_1 : Int) (x357004_1 : ByteArray), v5 = .int .i64 x5_1 ∧ Aside0 (carillonlaw10_AcceptorKeeps.l0 kq l0 t355 x5_1 x357000_1 x357001_1 x357002_1 x357003_1 x357004_1 = some r) ∧ Aside0 (kq ≤ k) ∧ Aside0 (w'.heap[gb356]? = some (.cells #[.int .i64 x357000_1, .int .i64 x357001_1, .int .i64 x357002_1, .int .i64 x357003_1, .string x357004_1] 25 (0, 0))) ∧ Aside0 (Below w.heap.size w w'))
 case atStart => exact ⟨(0), (0), (0), (0), (0), ((⟨#[]⟩ : ByteArray)), (by first | rfl | (simp; done) | (simp [*]; done)), H', ⟨Nat.le_refl _⟩, ⟨by (with_reducible repeat (first | refine blk_drewN ?_ _ | refine blk_drew ?_ | refine blk_alloc ?_ _)); exact BK356.out⟩, ⟨bw⟩⟩
 case round =>
  clear H'
  try clear p2
  try clear c4
  obtain ⟨x5_1, x357000_1, x357001_1, x357002_1, x357003_1, x357004_1, rfl, HA, HK1, BK356, HB⟩ := hrel
  cases gk with
  | zero => exact absurd HA.out (by simp [carillonlaw10_AcceptorKeeps.l0])
  | succ k1 =>
   have H := HA.out
   clear HA
   simp only [carillonlaw10_AcceptorKeeps.l0] at H
   have HC5 := Aside0.mk H
   clear H
   go_upto_region 4 with (fail)
   go_cut [21] (fun v21 wc => ∃ (kq : Nat) (x21_4 : Bool), v21 = .bool x21_4 ∧ Aside0 (carillonlaw10_AcceptorKeeps.j1 kq l0 t355 x5_1 x21_4 x357000_1 x357001_1 x357002_1 x357003_1 x357004_1 = some r) ∧ Aside0 (kq ≤ k1) ∧ Aside0 (wc.heap[gb356]? = some (.cells #[.int .i64 x357000_1, .int .i64 x357001_1, .int .i64 x357002_1, .int .i64 x357003_1, .string x357004_1] 25 (0, 0))) ∧ Aside0 (Below w.heap.size w wc))
   case first =>
    have H := HC5.out
    clear HC5
    by_cases c6 : x5_1 < (l0.length : Int)
    ·rw [if_pos c6] at H
     have c6b0 : decide (x5_1 < (l0.length : Int)) = true := decide_eq_true c6
     clear c6
     (first | rw [c6b0] | (simp only [i64_w, i32_w]; rw [c6b0]) | skip)
     have H' := Aside0.mk H
     clear H
     go_wp2
     go_meet
     case rel => exact ⟨_, (decide (x5_1 < 100)), (by first | rfl | (simp; done) | (simp [*]; done)), H', ⟨by have := HK1.out; first | omega | exact Nat.le_refl _⟩, ⟨by (with_reducible repeat (first | refine blk_drewN ?_ _ | refine blk_drew ?_ | refine blk_alloc ?_ _)); exact BK356.out⟩, ⟨bw⟩⟩
    ·rw [if_neg c6] at H
     have c6b0 : decide (x5_1 < (l0.length : Int)) = false := decide_eq_false c6
     clear c6
     (first | rw [c6b0] | (simp only [i64_w, i32_w]; rw [c6b0]) | skip)
     have H' := Aside0.mk H
     clear H
     go_wp2
     go_meet
     case rel => exact ⟨_, (false), (by first | rfl | (simp; done) | (simp [*]; done)), H', ⟨by have := HK1.out; first | omega | exact Nat.le_refl _⟩, ⟨by (with_reducible repeat (first | refine blk_drewN ?_ _ | refine blk_drew ?_ | refine blk_alloc ?_ _)); exact BK356.out⟩, ⟨bw⟩⟩
   case rest =>
    clear HC5
    try clear p2
    try clear c4
    try clear c6
    try clear c6b0
    try clear p2
    obtain ⟨kq, x21_4, rfl, HA, HJ4, BK356, HB⟩ := hcut
    cases kq with
    | zero => exact absurd HA.out (by simp [carillonlaw10_AcceptorKeeps.j1])
    | succ kj4 =>
     have H := HA.out
     clear HA
     simp only [carillonlaw10_AcceptorKeeps.j1] at H
     by_cases c7 : x21_4 = true
     ·subst c7
      have H1 : (if 0 ≤ x5_1 then (if x5_1 < (l0.length : Int) then ((acceptor_Prepare.f x357000_1 x357001_1 x357002_1 x357003_1 x357004_1 ((rd_T39 l0 x5_1).f0.f0) ((rd_T39 l0 x5_1).f0.f1)).bind fun bt368 => (if (rd_T39 l0 x5_1).f1 = true then ((acceptor_Take.f x357000_1 x357001_1 x357002_1 x357003_1 x357004_1 ((rd_T39 l0 x5_1).f0.f0) ((rd_T39 l0 x5_1).f0.f1) ((rd_T39 l0 x5_1).f2)).bind fun bt375 => (carillonlaw10_AcceptorKeeps.j2 kj4 l0 t355 x5_1 bt375.2.2.2.2.2 x357000_1 x357001_1 x357002_1 x357003_1 x357004_1 ((rd_T39 l0 x5_1).f0.f0) ((rd_T39 l0 x5_1).f0.f1) ((rd_T39 l0 x5_1).f1) ((rd_T39 l0 x5_1).f2) bt375.1 bt375.2.1 bt375.2.2.1 bt375.2.2.2.1 bt375.2.2.2.2.1)) else (carillonlaw10_AcceptorKeeps.j2 kj4 l0 t355 x5_1 bt368.2.2.2.2.2 x357000_1 x357001_1 x357002_1 x357003_1 x357004_1 ((rd_T39 l0 x5_1).f0.f0) ((rd_T39 l0 x5_1).f0.f1) ((rd_T39 l0 x5_1).f1) ((rd_T39 l0 x5_1).f2) bt368.1 bt368.2.1 bt368.2.2.1 bt368.2.2.2.1 bt368.2.2.2.2.1))) else (none)) else (none)) = some r := by rw [if_pos rfl] at H; exact H
      clear H
      have H := H1
      clear H1
      by_cases c8 : 0 ≤ x5_1
      ·rw [if_pos c8] at H
       have c8b0 : decide (0 ≤ x5_1) = true := decide_eq_true c8
       clear c8
       by_cases c9 : x5_1 < (l0.length : Int)
       ·rw [if_pos c9] at H
        have c9b0 : decide (x5_1 < (l0.length : Int)) = true := decide_eq_true c9
        clear c9
        replace H := Option.bind_eq_some_iff.mp H
        obtain ⟨⟨t368, t369, t370, t371, t372, t373⟩, A100, H⟩ := H
        replace H : (if (rd_T39 l0 x5_1).f1 = true then ((acceptor_Take.f x357000_1 x357001_1 x357002_1 x357003_1 x357004_1 ((rd_T39 l0 x5_1).f0.f0) ((rd_T39 l0 x5_1).f0.f1) ((rd_T39 l0 x5_1).f2)).bind fun bt375 => (carillonlaw10_AcceptorKeeps.j2 kj4 l0 t355 x5_1 bt375.2.2.2.2.2 x357000_1 x357001_1 x357002_1 x357003_1 x357004_1 ((rd_T39 l0 x5_1).f0.f0) ((rd_T39 l0 x5_1).f0.f1) ((rd_T39 l0 x5_1).f1) ((rd_T39 l0 x5_1).f2) bt375.1 bt375.2.1 bt375.2.2.1 bt375.2.2.2.1 bt375.2.2.2.2.1)) else (carillonlaw10_AcceptorKeeps.j2 kj4 l0 t355 x5_1 t373 x357000_1 x357001_1 x357002_1 x357003_1 x357004_1 ((rd_T39 l0 x5_1).f0.f0) ((rd_T39 l0 x5_1).f0.f1) ((rd_T39 l0 x5_1).f1) ((rd_T39 l0 x5_1).f2) t368 t369 t370 t371 t372)) = some r := H
        have A10 := Aside0.mk A100
        clear A100
        have HC11 := Aside0.mk H
        clear H
        have p366 : 0 ≤ (x5_1 : Int) := of_decide_eq_true (by first | (with_reducible assumption) | assumption)
        have q366 : x5_1 < (l0.length : Int) := of_decide_eq_true (by first | (with_reducible assumption) | assumption)
        obtain ⟨ad366, e366, hx366_0, hx366_1, hx366_2, hx366_3⟩ := at_T39 HR0.out x5_1 p366 q366
        cases e366
        replace hx366_0 := (HB.out.cell (World.block_lt_of_cell? w _ hx366_0)).trans hx366_0
        replace hx366_1 := (HB.out.cell (World.block_lt_of_cell? w _ hx366_1)).trans hx366_1
        replace hx366_2 := (HB.out.cell (World.block_lt_of_cell? w _ hx366_2)).trans hx366_2
        replace hx366_3 := (HB.out.cell (World.block_lt_of_cell? w _ hx366_3)).trans hx366_3
        replace p366 := eq_true p366
        replace q366 := eq_true q366
        go_upto_if 36 with (first | ((with_reducible refine gate_dst (N := 6) rfl ?_); refine box_event ?hg (N := 6) ?hd (cs := #[.int .i64 0, .int .i64 0, .bool false, .string (⟨#[]⟩ : ByteArray)]) (t := 39) ?hr ?_; (case hd => rfl); (case hg => rfl); (case hr => first | (go_simp; done) | (go_simp; rfl)); intro gb367 hg w12 hbox hb; have n0_ := Aside0.mk (nb BK356.out hb); have n1_ := Aside0.mk (below_step bw hb); have n2_ := Aside0.mk (hbox); have n3_ := Aside0.mk ((g1 hg bw : w.heap.size ≤ gb367)); have n4_ := Aside0.mk ((g1 hg bw : w.heap.size ≤ gb367)); have n5_ := Aside0.mk ((n1 hg BK356.out : gb356 ≠ gb367)); have n6_ := Aside0.mk ((n2 hg BK356.out : gb367 ≠ gb356)); clear BK356; clear HB; have BK356 := n0_; have HB := n1_; have BK367 := n2_; have GW367 := n3_; have GE367 := n4_; have NB356_367 := n5_; have NB367_356 := n6_; clear n0_ n1_ n2_ n3_ n4_ n5_ n6_; clear hb hbox hg; have hnb13 := NB367_356.out; have hnc13 := NB356_367.out; have hcz14_0 := bc4_0 BK367.out; have hcz14_1 := bc4_1 BK367.out; have hcz14_2 := bc4_2 BK367.out; have hcz14_3 := bc4_3 BK367.out; have hfz14_0 := blk_frozen BK367.out 0; have hfz14_1 := blk_frozen BK367.out 1; have hfz14_2 := blk_frozen BK367.out 2; have hfz14_3 := blk_frozen BK367.out 3; have hcz15_0 := bc5_0 BK356.out; have hcz15_1 := bc5_1 BK356.out; have hcz15_2 := bc5_2 BK356.out; have hcz15_3 := bc5_3 BK356.out; have hcz15_4 := bc5_4 BK356.out; have hfz15_0 := blk_frozen BK356.out 0; have hfz15_1 := blk_frozen BK356.out 1; have hfz15_2 := blk_frozen BK356.out 2; have hfz15_3 := blk_frozen BK356.out 3; have hfz15_4 := blk_frozen BK356.out 4) | ((with_reducible refine gate_callee (f := 11) rfl ?_); refine goesL_ (some 32) rfl rfl Tryd.func11 (by kernel_rfl) rfl #[.agg #[.int .i64 x357000_1, .int .i64 x357001_1, .int .i64 x357002_1, .int .i64 x357003_1, .string x357004_1], .agg #[.int .i64 ((rd_T39 l0 x5_1).f0.f0), .int .i64 ((rd_T39 l0 x5_1).f0.f1)]] rfl am ?_; (with_reducible refine (acceptor_Prepare.calls x357000_1 x357001_1 x357002_1 x357003_1 x357004_1 ((rd_T39 l0 x5_1).f0.f0) ((rd_T39 l0 x5_1).f0.f1) t368 t369 t370 t371 t372 t373 _ A10.out).mono ?_); rintro e w16 ⟨rfl, hb⟩; refine ⟨_, rfl, ?_⟩; have n0_ := Aside0.mk (blk_below (g := gb356) (o := .cells #[.int .i64 x357000_1, .int .i64 x357001_1, .int .i64 x357002_1, .int .i64 x357003_1, .string x357004_1] 25 (0, 0)) (by (with_reducible repeat (first | refine blk_drewN ?_ _ | refine blk_drew ?_ | refine blk_alloc ?_ _)); refine blk_far ?_ NB356_367.out _; (with_reducible repeat (first | refine blk_drewN ?_ _ | refine blk_drew ?_ | refine blk_alloc ?_ _)); refine blk_far ?_ NB356_367.out _; (with_reducible repeat (first | refine blk_drewN ?_ _ | refine blk_drew ?_ | refine blk_alloc ?_ _)); refine blk_far ?_ NB356_367.out _; (with_reducible repeat (first | refine blk_drewN ?_ _ | refine blk_drew ?_ | refine blk_alloc ?_ _)); refine blk_far ?_ NB356_367.out _; (with_reducible repeat (first | refine blk_drewN ?_ _ | refine blk_drew ?_ | refine blk_alloc ?_ _)); exact BK356.out) hb); have n1_ := Aside0.mk (blk_below (g := gb367) (o := .cells #[.int .i64 ((rd_T39 l0 x5_1).f0.f0), .int .i64 ((rd_T39 l0 x5_1).f0.f1), .bool ((rd_T39 l0 x5_1).f1), .string ((rd_T39 l0 x5_1).f2)] 39 (0, 0)) (by (with_reducible repeat (first | refine blk_drewN ?_ _ | refine blk_drew ?_ | refine blk_alloc ?_ _)); refine blk_put (cs := #[.int .i64 ((rd_T39 l0 x5_1).f0.f0), .int .i64 ((rd_T39 l0 x5_1).f0.f1), .bool ((rd_T39 l0 x5_1).f1), .string (⟨#[]⟩ : ByteArray)]) ?_ 3 _ rfl; (with_reducible repeat (first | refine blk_drewN ?_ _ | refine blk_drew ?_ | refine blk_alloc ?_ _)); refine blk_put (cs := #[.int .i64 ((rd_T39 l0 x5_1).f0.f0), .int .i64 ((rd_T39 l0 x5_1).f0.f1), .bool false, .string (⟨#[]⟩ : ByteArray)]) ?_ 2 _ rfl; (with_reducible repeat (first | refine blk_drewN ?_ _ | refine blk_drew ?_ | refine blk_alloc ?_ _)); refine blk_put (cs := #[.int .i64 ((rd_T39 l0 x5_1).f0.f0), .int .i64 0, .bool false, .string (⟨#[]⟩ : ByteArray)]) ?_ 1 _ rfl; (with_reducible repeat (first | refine blk_drewN ?_ _ | refine blk_drew ?_ | refine blk_alloc ?_ _)); refine blk_put (cs := #[.int .i64 0, .int .i64 0, .bool false, .string (⟨#[]⟩ : ByteArray)]) ?_ 0 _ rfl; (with_reducible repeat (first | refine blk_drewN ?_ _ | refine blk_drew ?_ | refine blk_alloc ?_ _)); exact BK367.out) hb); have n2_ := Aside0.mk (below_step bw hb); clear BK356; clear BK367; clear HB; have BK356 := n0_; have BK367 := n1_; have HB := n2_; clear n0_ n1_ n2_; (try clear hb); (try clear hb2); (try clear hk); (try clear hi)) | ((with_reducible refine gate_dst (N := 7) rfl ?_); refine box_event ?hg (N := 7) ?hd (cs := #[.int .i64 0, .int .i64 0, .int .i64 0, .int .i64 0, .string (⟨#[]⟩ : ByteArray)]) (t := 25) ?hr ?_; (case hd => rfl); (case hg => rfl); (case hr => first | (go_simp; done) | (go_simp; rfl)); intro gb374 hg w17 hbox hb; have n0_ := Aside0.mk (nb BK356.out hb); have n1_ := Aside0.mk (nb BK367.out hb); have n2_ := Aside0.mk (below_step bw hb); have n3_ := Aside0.mk (hbox); have n4_ := Aside0.mk ((g1 hg bw : w.heap.size ≤ gb374)); have n5_ := Aside0.mk ((g1 hg bw : w.heap.size ≤ gb374)); have n6_ := Aside0.mk ((n1 hg BK356.out : gb356 ≠ gb374)); have n7_ := Aside0.mk ((n2 hg BK356.out : gb374 ≠ gb356)); have n8_ := Aside0.mk ((n1 hg BK367.out : gb367 ≠ gb374)); have n9_ := Aside0.mk ((n2 hg BK367.out : gb374 ≠ gb367)); clear BK356; clear BK367; clear HB; have BK356 := n0_; have BK367 := n1_; have HB := n2_; have BK374 := n3_; have GW374 := n4_; have GE374 := n5_; have NB356_374 := n6_; have NB374_356 := n7_; have NB367_374 := n8_; have NB374_367 := n9_; clear n0_ n1_ n2_ n3_ n4_ n5_ n6_ n7_ n8_ n9_; clear hb hbox hg; have hnb18 := NB374_356.out; have hnc18 := NB356_374.out; have hnb19 := NB374_367.out; have hnc19 := NB367_374.out; have hcz20_0 := bc5_0 BK374.out; have hcz20_1 := bc5_1 BK374.out; have hcz20_2 := bc5_2 BK374.out; have hcz20_3 := bc5_3 BK374.out; have hcz20_4 := bc5_4 BK374.out; have hfz20_0 := blk_frozen BK374.out 0; have hfz20_1 := blk_frozen BK374.out 1; have hfz20_2 := blk_frozen BK374.out 2; have hfz20_3 := blk_frozen BK374.out 3; have hfz20_4 := blk_frozen BK374.out 4; have hcz21_0 := bc4_0 BK367.out; have hcz21_1 := bc4_1 BK367.out; have hcz21_2 := bc4_2 BK367.out; have hcz21_3 := bc4_3 BK367.out; have hfz21_0 := blk_frozen BK367.out 0; have hfz21_1 := blk_frozen BK367.out 1; have hfz21_2 := blk_frozen BK367.out 2; have hfz21_3 := blk_frozen BK367.out 3))
        (try simp only [Act.put, List.setIfInBounds_toArray, List.set_cons_zero, List.set_cons_succ])
        go_cut [8] (fun v8 wc => ∃ (kq : Nat) (x8_10 : Bool) (x375000_10 : Int) (x375001_10 : Int) (x375002_10 : Int) (x375003_10 : Int) (x375004_10 : ByteArray), v8 = .bool x8_10 ∧ Aside0 (carillonlaw10_AcceptorKeeps.j2 kq l0 t355 x5_1 x8_10 x357000_1 x357001_1 x357002_1 x357003_1 x357004_1 ((rd_T39 l0 x5_1).f0.f0) ((rd_T39 l0 x5_1).f0.f1) ((rd_T39 l0 x5_1).f1) ((rd_T39 l0 x5_1).f2) x375000_10 x375001_10 x375002_10 x375003_10 x375004_10 = some r) ∧ Aside0 (kq ≤ kj4) ∧ Aside0 (wc.heap[gb356]? = some (.cells #[.int .i64 x357000_1, .int .i64 x357001_1, .int .i64 x357002_1, .int .i64 x357003_1, .string x357004_1] 25 (0, 0))) ∧ Aside0 (wc.heap[gb367]? = some (.cells #[.int .i64 ((rd_T39 l0 x5_1).f0.f0), .int .i64 ((rd_T39 l0 x5_1).f0.f1), .bool ((rd_T39 l0 x5_1).f1), .string ((rd_T39 l0 x5_1).f2)] 39 (0, 0))) ∧ Aside0 (wc.heap[gb374]? = some (.cells #[.int .i64 x375000_10, .int .i64 x375001_10, .int .i64 x375002_10, .int .i64 x375003_10, .string x375004_10] 25 (0, 0))) ∧ Aside0 (Below w.heap.size w wc))
        case first =>
         have H := HC11.out
         clear HC11
         obtain ⟨bq22, hbq22⟩ : ∃ b_ : Bool, b_ = ((rd_T39 l0 x5_1).f1) := ⟨_, rfl⟩
         replace H : (if bq22 = true then ((acceptor_Take.f x357000_1 x357001_1 x357002_1 x357003_1 x357004_1 ((rd_T39 l0 x5_1).f0.f0) ((rd_T39 l0 x5_1).f0.f1) ((rd_T39 l0 x5_1).f2)).bind fun bt375 => (carillonlaw10_AcceptorKeeps.j2 kj4 l0 t355 x5_1 bt375.2.2.2.2.2 x357000_1 x357001_1 x357002_1 x357003_1 x357004_1 ((rd_T39 l0 x5_1).f0.f0) ((rd_T39 l0 x5_1).f0.f1) bq22 ((rd_T39 l0 x5_1).f2) bt375.1 bt375.2.1 bt375.2.2.1 bt375.2.2.2.1 bt375.2.2.2.2.1)) else (carillonlaw10_AcceptorKeeps.j2 kj4 l0 t355 x5_1 t373 x357000_1 x357001_1 x357002_1 x357003_1 x357004_1 ((rd_T39 l0 x5_1).f0.f0) ((rd_T39 l0 x5_1).f0.f1) bq22 ((rd_T39 l0 x5_1).f2) t368 t369 t370 t371 t372)) = some r := by rw [← hbq22] at H; exact H
         have Nbq22 := Aside0.mk hbq22
         clear hbq22
         (try rw [← Nbq22.out])
         by_cases c23 : bq22 = true
         ·subst c23
          (try rw [← Nbq22.out] at BK356)
          (try rw [← Nbq22.out] at BK367)
          (try rw [← Nbq22.out] at BK374)
          have H1 : ((acceptor_Take.f x357000_1 x357001_1 x357002_1 x357003_1 x357004_1 ((rd_T39 l0 x5_1).f0.f0) ((rd_T39 l0 x5_1).f0.f1) ((rd_T39 l0 x5_1).f2)).bind fun bt375 => (carillonlaw10_AcceptorKeeps.j2 kj4 l0 t355 x5_1 bt375.2.2.2.2.2 x357000_1 x357001_1 x357002_1 x357003_1 x357004_1 ((rd_T39 l0 x5_1).f0.f0) ((rd_T39 l0 x5_1).f0.f1) true ((rd_T39 l0 x5_1).f2) bt375.1 bt375.2.1 bt375.2.2.1 bt375.2.2.2.1 bt375.2.2.2.2.1)) = some r := by rw [if_pos rfl] at H; exact H
          clear H
          have H := H1
          clear H1
          replace H := Option.bind_eq_some_iff.mp H
          obtain ⟨⟨t375, t376, t377, t378, t379, t380⟩, A240, H⟩ := H
          replace H : (carillonlaw10_AcceptorKeeps.j2 kj4 l0 t355 x5_1 t380 x357000_1 x357001_1 x357002_1 x357003_1 x357004_1 ((rd_T39 l0 x5_1).f0.f0) ((rd_T39 l0 x5_1).f0.f1) true ((rd_T39 l0 x5_1).f2) t375 t376 t377 t378 t379) = some r := H
          have A24 := Aside0.mk A240
          clear A240
          have H' := Aside0.mk H
          clear H
          have hnb25 := NB356_367.out
          have hnc25 := NB367_356.out
          have hnb26 := NB356_374.out
          have hnc26 := NB374_356.out
          have hcz27_0 := bc5_0 BK356.out
          have hcz27_1 := bc5_1 BK356.out
          have hcz27_2 := bc5_2 BK356.out
          have hcz27_3 := bc5_3 BK356.out
          have hcz27_4 := bc5_4 BK356.out
          have hfz27_0 := blk_frozen BK356.out 0
          have hfz27_1 := blk_frozen BK356.out 1
          have hfz27_2 := blk_frozen BK356.out 2
          have hfz27_3 := blk_frozen BK356.out 3
          have hfz27_4 := blk_frozen BK356.out 4
          have hnb28 := NB367_374.out
          have hnc28 := NB374_367.out
          have hcz29_0 := bc4_0 BK367.out
          have hcz29_1 := bc4_1 BK367.out
          have hcz29_2 := bc4_2 BK367.out
          have hcz29_3 := bc4_3 BK367.out
          have hfz29_0 := blk_frozen BK367.out 0
          have hfz29_1 := blk_frozen BK367.out 1
          have hfz29_2 := blk_frozen BK367.out 2
          have hfz29_3 := blk_frozen BK367.out 3
          go_wp2_with (first | ((with_reducible refine gate_callee (f := 12) rfl ?_); refine goesL_ (some 43) rfl rfl Tryd.func12 (by kernel_rfl) rfl #[.agg #[.int .i64 x357000_1, .int .i64 x357001_1, .int .i64 x357002_1, .int .i64 x357003_1, .string x357004_1], .agg #[.int .i64 ((rd_T39 l0 x5_1).f0.f0), .int .i64 ((rd_T39 l0 x5_1).f0.f1)], .string ((rd_T39 l0 x5_1).f2)] rfl am ?_; (with_reducible refine (acceptor_Take.calls x357000_1 x357001_1 x357002_1 x357003_1 x357004_1 ((rd_T39 l0 x5_1).f0.f0) ((rd_T39 l0 x5_1).f0.f1) ((rd_T39 l0 x5_1).f2) t375 t376 t377 t378 t379 t380 _ A24.out).mono ?_); rintro e w30 ⟨rfl, hb⟩; refine ⟨_, rfl, ?_⟩; have n0_ := Aside0.mk (blk_below (g := gb356) (o := .cells #[.int .i64 x357000_1, .int .i64 x357001_1, .int .i64 x357002_1, .int .i64 x357003_1, .string x357004_1] 25 (0, 0)) (by (with_reducible repeat (first | refine blk_drewN ?_ _ | refine blk_drew ?_ | refine blk_alloc ?_ _)); refine blk_far ?_ NB356_374.out _; (with_reducible repeat (first | refine blk_drewN ?_ _ | refine blk_drew ?_ | refine blk_alloc ?_ _)); refine blk_far ?_ NB356_374.out _; (with_reducible repeat (first | refine blk_drewN ?_ _ | refine blk_drew ?_ | refine blk_alloc ?_ _)); refine blk_far ?_ NB356_374.out _; (with_reducible repeat (first | refine blk_drewN ?_ _ | refine blk_drew ?_ | refine blk_alloc ?_ _)); refine blk_far ?_ NB356_374.out _; (with_reducible repeat (first | refine blk_drewN ?_ _ | refine blk_drew ?_ | refine blk_alloc ?_ _)); refine blk_far ?_ NB356_374.out _; (with_reducible repeat (first | refine blk_drewN ?_ _ | refine blk_drew ?_ | refine blk_alloc ?_ _)); exact BK356.out) hb); have n1_ := Aside0.mk (blk_below (g := gb367) (o := .cells #[.int .i64 ((rd_T39 l0 x5_1).f0.f0), .int .i64 ((rd_T39 l0 x5_1).f0.f1), .bool true, .string ((rd_T39 l0 x5_1).f2)] 39 (0, 0)) (by (with_reducible repeat (first | refine blk_drewN ?_ _ | refine blk_drew ?_ | refine blk_alloc ?_ _)); refine blk_far ?_ NB367_374.out _; (with_reducible repeat (first | refine blk_drewN ?_ _ | refine blk_drew ?_ | refine blk_alloc ?_ _)); refine blk_far ?_ NB367_374.out _; (with_reducible repeat (first | refine blk_drewN ?_ _ | refine blk_drew ?_ | refine blk_alloc ?_ _)); refine blk_far ?_ NB367_374.out _; (with_reducible repeat (first | refine blk_drewN ?_ _ | refine blk_drew ?_ | refine blk_alloc ?_ _)); refine blk_far ?_ NB367_374.out _; (with_reducible repeat (first | refine blk_drewN ?_ _ | refine blk_drew ?_ | refine blk_alloc ?_ _)); refine blk_far ?_ NB367_374.out _; (with_reducible repeat (first | refine blk_drewN ?_ _ | refine blk_drew ?_ | refine blk_alloc ?_ _)); exact BK367.out) hb); have n2_ := Aside0.mk (blk_below (g := gb374) (o := .cells #[.int .i64 t368, .int .i64 t369, .int .i64 t370, .int .i64 t371, .string t372] 25 (0, 0)) (by (with_reducible repeat (first | refine blk_drewN ?_ _ | refine blk_drew ?_ | refine blk_alloc ?_ _)); refine blk_put (cs := #[.int .i64 t368, .int .i64 t369, .int .i64 t370, .int .i64 t371, .string (⟨#[]⟩ : ByteArray)]) ?_ 4 _ rfl; (with_reducible repeat (first | refine blk_drewN ?_ _ | refine blk_drew ?_ | refine blk_alloc ?_ _)); refine blk_put (cs := #[.int .i64 t368, .int .i64 t369, .int .i64 t370, .int .i64 0, .string (⟨#[]⟩ : ByteArray)]) ?_ 3 _ rfl; (with_reducible repeat (first | refine blk_drewN ?_ _ | refine blk_drew ?_ | refine blk_alloc ?_ _)); refine blk_put (cs := #[.int .i64 t368, .int .i64 t369, .int .i64 0, .int .i64 0, .string (⟨#[]⟩ : ByteArray)]) ?_ 2 _ rfl; (with_reducible repeat (first | refine blk_drewN ?_ _ | refine blk_drew ?_ | refine blk_alloc ?_ _)); refine blk_put (cs := #[.int .i64 t368, .int .i64 0, .int .i64 0, .int .i64 0, .string (⟨#[]⟩ : ByteArray)]) ?_ 1 _ rfl; (with_reducible repeat (first | refine blk_drewN ?_ _ | refine blk_drew ?_ | refine blk_alloc ?_ _)); refine blk_put (cs := #[.int .i64 0, .int .i64 0, .int .i64 0, .int .i64 0, .string (⟨#[]⟩ : ByteArray)]) ?_ 0 _ rfl; (with_reducible repeat (first | refine blk_drewN ?_ _ | refine blk_drew ?_ | refine blk_alloc ?_ _)); exact BK374.out) hb); have n3_ := Aside0.mk (below_step bw hb); clear BK356; clear BK367; clear BK374; clear HB; have BK356 := n0_; have BK367 := n1_; have BK374 := n2_; have HB := n3_; clear n0_ n1_ n2_ n3_; (try clear hb); (try clear hb2); (try clear hk); (try clear hi); have hcz31_0 := bc5_0 BK374.out; have hcz31_1 := bc5_1 BK374.out; have hcz31_2 := bc5_2 BK374.out; have hcz31_3 := bc5_3 BK374.out; have hcz31_4 := bc5_4 BK374.out; have hfz31_0 := blk_frozen BK374.out 0; have hfz31_1 := blk_frozen BK374.out 1; have hfz31_2 := blk_frozen BK374.out 2; have hfz31_3 := blk_frozen BK374.out 3; have hfz31_4 := blk_frozen BK374.out 4))
          go_meet
          case rel => (try rw [← Nbq22.out]); exact ⟨_, (t380), (t375), (t376), (t377), (t378), (t379), (by first | rfl | (simp; done) | (simp [*]; done)), H', ⟨by have := HK1.out; have := HJ4.out; first | omega | exact Nat.le_refl _⟩, ⟨by (with_reducible repeat (first | refine blk_drewN ?_ _ | refine blk_drew ?_ | refine blk_alloc ?_ _)); refine blk_far ?_ NB356_374.out _; (with_reducible repeat (first | refine blk_drewN ?_ _ | refine blk_drew ?_ | refine blk_alloc ?_ _)); refine blk_far ?_ NB356_374.out _; (with_reducible repeat (first | refine blk_drewN ?_ _ | refine blk_drew ?_ | refine blk_alloc ?_ _)); refine blk_far ?_ NB356_374.out _; (with_reducible repeat (first | refine blk_drewN ?_ _ | refine blk_drew ?_ | refine blk_alloc ?_ _)); refine blk_far ?_ NB356_374.out _; (with_reducible repeat (first | refine blk_drewN ?_ _ | refine blk_drew ?_ | refine blk_alloc ?_ _)); refine blk_far ?_ NB356_374.out _; (with_reducible repeat (first | refine blk_drewN ?_ _ | refine blk_drew ?_ | refine blk_alloc ?_ _)); exact BK356.out⟩, ⟨by (with_reducible repeat (first | refine blk_drewN ?_ _ | refine blk_drew ?_ | refine blk_alloc ?_ _)); refine blk_far ?_ NB367_374.out _; (with_reducible repeat (first | refine blk_drewN ?_ _ | refine blk_drew ?_ | refine blk_alloc ?_ _)); refine blk_far ?_ NB367_374.out _; (with_reducible repeat (first | refine blk_drewN ?_ _ | refine blk_drew ?_ | refine blk_alloc ?_ _)); refine blk_far ?_ NB367_374.out _; (with_reducible repeat (first | refine blk_drewN ?_ _ | refine blk_drew ?_ | refine blk_alloc ?_ _)); refine blk_far ?_ NB367_374.out _; (with_reducible repeat (first | refine blk_drewN ?_ _ | refine blk_drew ?_ | refine blk_alloc ?_ _)); refine blk_far ?_ NB367_374.out _; (with_reducible repeat (first | refine blk_drewN ?_ _ | refine blk_drew ?_ | refine blk_alloc ?_ _)); exact BK367.out⟩, ⟨by (with_reducible repeat (first | refine blk_drewN ?_ _ | refine blk_drew ?_ | refine blk_alloc ?_ _)); refine blk_put (cs := #[.int .i64 t375, .int .i64 t376, .int .i64 t377, .int .i64 t378, .string t372]) ?_ 4 _ rfl; (with_reducible repeat (first | refine blk_drewN ?_ _ | refine blk_drew ?_ | refine blk_alloc ?_ _)); refine blk_put (cs := #[.int .i64 t375, .int .i64 t376, .int .i64 t377, .int .i64 t371, .string t372]) ?_ 3 _ rfl; (with_reducible repeat (first | refine blk_drewN ?_ _ | refine blk_drew ?_ | refine blk_alloc ?_ _)); refine blk_put (cs := #[.int .i64 t375, .int .i64 t376, .int .i64 t370, .int .i64 t371, .string t372]) ?_ 2 _ rfl; (with_reducible repeat (first | refine blk_drewN ?_ _ | refine blk_drew ?_ | refine blk_alloc ?_ _)); refine blk_put (cs := #[.int .i64 t375, .int .i64 t369, .int .i64 t370, .int .i64 t371, .string t372]) ?_ 1 _ rfl; (with_reducible repeat (first | refine blk_drewN ?_ _ | refine blk_drew ?_ | refine blk_alloc ?_ _)); refine blk_put (cs := #[.int .i64 t368, .int .i64 t369, .int .i64 t370, .int .i64 t371, .string t372]) ?_ 0 _ rfl; (with_reducible repeat (first | refine blk_drewN ?_ _ | refine blk_drew ?_ | refine blk_alloc ?_ _)); exact BK374.out⟩, ⟨bw⟩⟩
         ·replace c23 := Bool.eq_false_iff.mpr c23
          subst c23
          (try rw [← Nbq22.out] at BK356)
          (try rw [← Nbq22.out] at BK367)
          (try rw [← Nbq22.out] at BK374)
          have H1 : (carillonlaw10_AcceptorKeeps.j2 kj4 l0 t355 x5_1 t373 x357000_1 x357001_1 x357002_1 x357003_1 x357004_1 ((rd_T39 l0 x5_1).f0.f0) ((rd_T39 l0 x5_1).f0.f1) false ((rd_T39 l0 x5_1).f2) t368 t369 t370 t371 t372) = some r := by rw [if_neg (show ¬ (false = true) by decide)] at H; exact H
          clear H
          have H := H1
          clear H1
          have H' := Aside0.mk H
          clear H
          go_wp2
          go_meet
          case rel => (try rw [← Nbq22.out]); exact ⟨_, (t373), (t368), (t369), (t370), (t371), (t372), (by first | rfl | (simp; done) | (simp [*]; done)), H', ⟨by have := HK1.out; have := HJ4.out; first | omega | exact Nat.le_refl _⟩, ⟨by (with_reducible repeat (first | refine blk_drewN ?_ _ | refine blk_drew ?_ | refine blk_alloc ?_ _)); refine blk_far ?_ NB356_374.out _; (with_reducible repeat (first | refine blk_drewN ?_ _ | refine blk_drew ?_ | refine blk_alloc ?_ _)); refine blk_far ?_ NB356_374.out _; (with_reducible repeat (first | refine blk_drewN ?_ _ | refine blk_drew ?_ | refine blk_alloc ?_ _)); refine blk_far ?_ NB356_374.out _; (with_reducible repeat (first | refine blk_drewN ?_ _ | refine blk_drew ?_ | refine blk_alloc ?_ _)); refine blk_far ?_ NB356_374.out _; (with_reducible repeat (first | refine blk_drewN ?_ _ | refine blk_drew ?_ | refine blk_alloc ?_ _)); refine blk_far ?_ NB356_374.out _; (with_reducible repeat (first | refine blk_drewN ?_ _ | refine blk_drew ?_ | refine blk_alloc ?_ _)); exact BK356.out⟩, ⟨by (with_reducible repeat (first | refine blk_drewN ?_ _ | refine blk_drew ?_ | refine blk_alloc ?_ _)); refine blk_far ?_ NB367_374.out _; (with_reducible repeat (first | refine blk_drewN ?_ _ | refine blk_drew ?_ | refine blk_alloc ?_ _)); refine blk_far ?_ NB367_374.out _; (with_reducible repeat (first | refine blk_drewN ?_ _ | refine blk_drew ?_ | refine blk_alloc ?_ _)); refine blk_far ?_ NB367_374.out _; (with_reducible repeat (first | refine blk_drewN ?_ _ | refine blk_drew ?_ | refine blk_alloc ?_ _)); refine blk_far ?_ NB367_374.out _; (with_reducible repeat (first | refine blk_drewN ?_ _ | refine blk_drew ?_ | refine blk_alloc ?_ _)); refine blk_far ?_ NB367_374.out _; (with_reducible repeat (first | refine blk_drewN ?_ _ | refine blk_drew ?_ | refine blk_alloc ?_ _)); exact BK367.out⟩, ⟨by (with_reducible repeat (first | refine blk_drewN ?_ _ | refine blk_drew ?_ | refine blk_alloc ?_ _)); refine blk_put (cs := #[.int .i64 t368, .int .i64 t369, .int .i64 t370, .int .i64 t371, .string (⟨#[]⟩ : ByteArray)]) ?_ 4 _ rfl; (with_reducible repeat (first | refine blk_drewN ?_ _ | refine blk_drew ?_ | refine blk_alloc ?_ _)); refine blk_put (cs := #[.int .i64 t368, .int .i64 t369, .int .i64 t370, .int .i64 0, .string (⟨#[]⟩ : ByteArray)]) ?_ 3 _ rfl; (with_reducible repeat (first | refine blk_drewN ?_ _ | refine blk_drew ?_ | refine blk_alloc ?_ _)); refine blk_put (cs := #[.int .i64 t368, .int .i64 t369, .int .i64 0, .int .i64 0, .string (⟨#[]⟩ : ByteArray)]) ?_ 2 _ rfl; (with_reducible repeat (first | refine blk_drewN ?_ _ | refine blk_drew ?_ | refine blk_alloc ?_ _)); refine blk_put (cs := #[.int .i64 t368, .int .i64 0, .int .i64 0, .int .i64 0, .string (⟨#[]⟩ : ByteArray)]) ?_ 1 _ rfl; (with_reducible repeat (first | refine blk_drewN ?_ _ | refine blk_drew ?_ | refine blk_alloc ?_ _)); refine blk_put (cs := #[.int .i64 0, .int .i64 0, .int .i64 0, .int .i64 0, .string (⟨#[]⟩ : ByteArray)]) ?_ 0 _ rfl; (with_reducible repeat (first | refine blk_drewN ?_ _ | refine blk_drew ?_ | refine blk_alloc ?_ _)); exact BK374.out⟩, ⟨bw⟩⟩
        case rest =>
         clear HC11
         try clear c1
         try clear c2
         try clear p2
         try clear q2
         try clear p3
         try clear q3
         try clear hx3
         try clear c4
         try clear c6
         try clear c6b0
         try clear c7
         try clear c8
         try clear c8b0
         try clear c9
         try clear c9b0
         try clear c11
         try clear c12
         try clear c13
         try clear c18
         try clear c19
         try clear q22
         try clear c23
         try clear c25
         try clear c26
         try clear c28
         try clear hcz14_0
         try clear hcz14_1
         try clear hcz14_2
         try clear hcz14_3
         try clear hcz15_0
         try clear hcz15_1
         try clear hcz15_2
         try clear hcz15_3
         try clear hcz15_4
         try clear hcz20_0
         try clear hcz20_1
         try clear hcz20_2
         try clear hcz20_3
         try clear hcz20_4
         try clear hcz21_0
         try clear hcz21_1
         try clear hcz21_2
         try clear hcz21_3
         try clear hcz27_0
         try clear hcz27_1
         try clear hcz27_2
         try clear hcz27_3
         try clear hcz27_4
         try clear hcz29_0
         try clear hcz29_1
         try clear hcz29_2
         try clear hcz29_3
         try clear hcz31_0
         try clear hcz31_1
         try clear hcz31_2
         try clear hcz31_3
         try clear hcz31_4
         try clear hfz14_0
         try clear hfz14_1
         try clear hfz14_2
         try clear hfz14_3
         try clear hfz15_0
         try clear hfz15_1
         try clear hfz15_2
         try clear hfz15_3
         try clear hfz15_4
         try clear hfz20_0
         try clear hfz20_1
         try clear hfz20_2
         try clear hfz20_3
         try clear hfz20_4
         try clear hfz21_0
         try clear hfz21_1
         try clear hfz21_2
         try clear hfz21_3
         try clear hfz27_0
         try clear hfz27_1
         try clear hfz27_2
         try clear hfz27_3
         try clear hfz27_4
         try clear hfz29_0
         try clear hfz29_1
         try clear hfz29_2
         try clear hfz29_3
         try clear hfz31_0
         try clear hfz31_1
         try clear hfz31_2
         try clear hfz31_3
         try clear hfz31_4
         try clear hx366_0
         try clear hx366_1
         try clear hx366_2
         try clear hx366_3
         try clear p2
         try clear p366
         try clear q366
         obtain ⟨kq, x8_10, x375000_10, x375001_10, x375002_10, x375003_10, x375004_10, rfl, HA, HJ10, BK356, BK367, BK374, HB⟩ := hcut
         cases kq with
         | zero => exact absurd HA.out (by simp [carillonlaw10_AcceptorKeeps.j2])
         | succ kj10 =>
          have H := HA.out
          clear HA
          simp only [carillonlaw10_AcceptorKeeps.j2] at H
          have HC32 := Aside0.mk H
          clear H
          go_upto_region 10 with (fail)
          go_cut [62] (fun v62 wc => ∃ (kq : Nat) (x62_31 : Bool), v62 = .bool x62_31 ∧ Aside0 (carillonlaw10_AcceptorKeeps.j3 kq l0 t355 x5_1 x8_10 x62_31 x357000_1 x357001_1 x357002_1 x357003_1 x357004_1 ((rd_T39 l0 x5_1).f0.f0) ((rd_T39 l0 x5_1).f0.f1) ((rd_T39 l0 x5_1).f1) ((rd_T39 l0 x5_1).f2) x375000_10 x375001_10 x375002_10 x375003_10 x375004_10 = some r) ∧ Aside0 (kq ≤ kj10) ∧ Aside0 (wc.heap[gb356]? = some (.cells #[.int .i64 x357000_1, .int .i64 x357001_1, .int .i64 x357002_1, .int .i64 x357003_1, .string x357004_1] 25 (0, 0))) ∧ Aside0 (wc.heap[gb367]? = some (.cells #[.int .i64 ((rd_T39 l0 x5_1).f0.f0), .int .i64 ((rd_T39 l0 x5_1).f0.f1), .bool ((rd_T39 l0 x5_1).f1), .string ((rd_T39 l0 x5_1).f2)] 39 (0, 0))) ∧ Aside0 (wc.heap[gb374]? = some (.cells #[.int .i64 x375000_10, .int .i64 x375001_10, .int .i64 x375002_10, .int .i64 x375003_10, .string x375004_10] 25 (0, 0))) ∧ Aside0 (Below w.heap.size w wc))
          case first =>
           have H := HC32.out
           clear HC32
           by_cases c33 : x8_10 = true
           ·subst c33
            have H1 : ((acceptor_Less.f ((rd_T39 l0 x5_1).f0.f0) ((rd_T39 l0 x5_1).f0.f1) x357000_1 x357001_1).bind fun t381 => (carillonlaw10_AcceptorKeeps.j3 kj10 l0 t355 x5_1 true t381 x357000_1 x357001_1 x357002_1 x357003_1 x357004_1 ((rd_T39 l0 x5_1).f0.f0) ((rd_T39 l0 x5_1).f0.f1) ((rd_T39 l0 x5_1).f1) ((rd_T39 l0 x5_1).f2) x375000_10 x375001_10 x375002_10 x375003_10 x375004_10)) = some r := by rw [if_pos rfl] at H; exact H
            clear H
            have H := H1
            clear H1
            replace H := Option.bind_eq_some_iff.mp H
            obtain ⟨t381, A340, H⟩ := H
            replace H : (carillonlaw10_AcceptorKeeps.j3 kj10 l0 t355 x5_1 true t381 x357000_1 x357001_1 x357002_1 x357003_1 x357004_1 ((rd_T39 l0 x5_1).f0.f0) ((rd_T39 l0 x5_1).f0.f1) ((rd_T39 l0 x5_1).f1) ((rd_T39 l0 x5_1).f2) x375000_10 x375001_10 x375002_10 x375003_10 x375004_10) = some r := H
            have A34 := Aside0.mk A340
            clear A340
            have H' := Aside0.mk H
            clear H
            have hnb35 := NB367_356.out
            have hnc35 := NB356_367.out
            have hnb36 := NB367_374.out
            have hnc36 := NB374_367.out
            have hcz37_0 := bc4_0 BK367.out
            have hcz37_1 := bc4_1 BK367.out
            have hcz37_2 := bc4_2 BK367.out
            have hcz37_3 := bc4_3 BK367.out
            have hfz37_0 := blk_frozen BK367.out 0
            have hfz37_1 := blk_frozen BK367.out 1
            have hfz37_2 := blk_frozen BK367.out 2
            have hfz37_3 := blk_frozen BK367.out 3
            have hnb38 := NB356_374.out
            have hnc38 := NB374_356.out
            have hcz39_0 := bc5_0 BK356.out
            have hcz39_1 := bc5_1 BK356.out
            have hcz39_2 := bc5_2 BK356.out
            have hcz39_3 := bc5_3 BK356.out
            have hcz39_4 := bc5_4 BK356.out
            have hfz39_0 := blk_frozen BK356.out 0
            have hfz39_1 := blk_frozen BK356.out 1
            have hfz39_2 := blk_frozen BK356.out 2
            have hfz39_3 := blk_frozen BK356.out 3
            have hfz39_4 := blk_frozen BK356.out 4
            go_wp2_with (first | (go_at_call 13; (with_reducible refine (acceptor_Less.calls ((rd_T39 l0 x5_1).f0.f0) ((rd_T39 l0 x5_1).f0.f1) x357000_1 x357001_1 t381 _ A34.out).mono ?_); rintro e w40 ⟨rfl, hb⟩; have n0_ := Aside0.mk (nb BK356.out hb); have n1_ := Aside0.mk (nb BK367.out hb); have n2_ := Aside0.mk (nb BK374.out hb); have n3_ := Aside0.mk (below_step bw hb); clear BK356; clear BK367; clear BK374; clear HB; have BK356 := n0_; have BK367 := n1_; have BK374 := n2_; have HB := n3_; clear n0_ n1_ n2_ n3_; (try clear hb); (try clear hb2); (try clear hk); (try clear hi)))
            go_meet
            case rel => (try rw [← Nbq22.out]); exact ⟨_, (t381), (by first | rfl | (simp; done) | (simp [*]; done)), H', ⟨by have := HK1.out; have := HJ4.out; have := HJ10.out; first | omega | exact Nat.le_refl _⟩, ⟨by (with_reducible repeat (first | refine blk_drewN ?_ _ | refine blk_drew ?_ | refine blk_alloc ?_ _)); exact BK356.out⟩, ⟨by (with_reducible repeat (first | refine blk_drewN ?_ _ | refine blk_drew ?_ | refine blk_alloc ?_ _)); exact BK367.out⟩, ⟨by (with_reducible repeat (first | refine blk_drewN ?_ _ | refine blk_drew ?_ | refine blk_alloc ?_ _)); exact BK374.out⟩, ⟨bw⟩⟩
           ·replace c33 := Bool.eq_false_iff.mpr c33
            subst c33
            have H1 : (if ((!(x375000_10 == x357000_1) || (!(x375001_10 == x357001_1))) || ((!(x375002_10 == x357002_1) || (!(x375003_10 == x357003_1))) || (!(x375004_10.toList == x357004_1.toList)))) = true then (carillonlaw10_AcceptorKeeps.j3 kj10 l0 t355 x5_1 false true x357000_1 x357001_1 x357002_1 x357003_1 x357004_1 ((rd_T39 l0 x5_1).f0.f0) ((rd_T39 l0 x5_1).f0.f1) ((rd_T39 l0 x5_1).f1) ((rd_T39 l0 x5_1).f2) x375000_10 x375001_10 x375002_10 x375003_10 x375004_10) else (carillonlaw10_AcceptorKeeps.j3 kj10 l0 t355 x5_1 false false x357000_1 x357001_1 x357002_1 x357003_1 x357004_1 ((rd_T39 l0 x5_1).f0.f0) ((rd_T39 l0 x5_1).f0.f1) ((rd_T39 l0 x5_1).f1) ((rd_T39 l0 x5_1).f2) x375000_10 x375001_10 x375002_10 x375003_10 x375004_10)) = some r := by rw [if_neg (show ¬ (false = true) by decide)] at H; exact H
            clear H
            have H := H1
            clear H1
            by_cases c41 : ((!(x375000_10 == x357000_1) || (!(x375001_10 == x357001_1))) || ((!(x375002_10 == x357002_1) || (!(x375003_10 == x357003_1))) || (!(x375004_10.toList == x357004_1.toList)))) = true
            ·rw [if_pos c41] at H
             have c41b0 : ((!(x375000_10 == x357000_1) || (!(x375001_10 == x357001_1))) || ((!(x375002_10 == x357002_1) || (!(x375003_10 == x357003_1))) || (!(x375004_10.toList == x357004_1.toList)))) = true := c41
             clear c41
             (first | rw [c41b0] | (simp only [i64_w, i32_w]; rw [c41b0]) | skip)
             have H' := Aside0.mk H
             clear H
             have hnb42 := NB374_356.out
             have hnc42 := NB356_374.out
             have hnb43 := NB374_367.out
             have hnc43 := NB367_374.out
             have hcz44_0 := bc5_0 BK374.out
             have hcz44_1 := bc5_1 BK374.out
             have hcz44_2 := bc5_2 BK374.out
             have hcz44_3 := bc5_3 BK374.out
             have hcz44_4 := bc5_4 BK374.out
             have hfz44_0 := blk_frozen BK374.out 0
             have hfz44_1 := blk_frozen BK374.out 1
             have hfz44_2 := blk_frozen BK374.out 2
             have hfz44_3 := blk_frozen BK374.out 3
             have hfz44_4 := blk_frozen BK374.out 4
             have hnb45 := NB356_367.out
             have hnc45 := NB367_356.out
             have hcz46_0 := bc5_0 BK356.out
             have hcz46_1 := bc5_1 BK356.out
             have hcz46_2 := bc5_2 BK356.out
             have hcz46_3 := bc5_3 BK356.out
             have hcz46_4 := bc5_4 BK356.out
             have hfz46_0 := blk_frozen BK356.out 0
             have hfz46_1 := blk_frozen BK356.out 1
             have hfz46_2 := blk_frozen BK356.out 2
             have hfz46_3 := blk_frozen BK356.out 3
             have hfz46_4 := blk_frozen BK356.out 4
             go_wp2
             go_meet
             case rel => (try rw [← Nbq22.out]); exact ⟨_, (true), (by first | rfl | (simp; done) | (simp [*]; done)), H', ⟨by have := HK1.out; have := HJ4.out; have := HJ10.out; first | omega | exact Nat.le_refl _⟩, ⟨by (with_reducible repeat (first | refine blk_drewN ?_ _ | refine blk_drew ?_ | refine blk_alloc ?_ _)); exact BK356.out⟩, ⟨by (with_reducible repeat (first | refine blk_drewN ?_ _ | refine blk_drew ?_ | refine blk_alloc ?_ _)); exact BK367.out⟩, ⟨by (with_reducible repeat (first | refine blk_drewN ?_ _ | refine blk_drew ?_ | refine blk_alloc ?_ _)); exact BK374.out⟩, ⟨bw⟩⟩
            ·rw [if_neg c41] at H
             have c41b0 : ((!(x375000_10 == x357000_1) || (!(x375001_10 == x357001_1))) || ((!(x375002_10 == x357002_1) || (!(x375003_10 == x357003_1))) || (!(x375004_10.toList == x357004_1.toList)))) = false := by simpa using c41
             clear c41
             (first | rw [c41b0] | (simp only [i64_w, i32_w]; rw [c41b0]) | skip)
             have H' := Aside0.mk H
             clear H
             have hnb47 := NB374_356.out
             have hnc47 := NB356_374.out
             have hnb48 := NB374_367.out
             have hnc48 := NB367_374.out
             have hcz49_0 := bc5_0 BK374.out
             have hcz49_1 := bc5_1 BK374.out
             have hcz49_2 := bc5_2 BK374.out
             have hcz49_3 := bc5_3 BK374.out
             have hcz49_4 := bc5_4 BK374.out
             have hfz49_0 := blk_frozen BK374.out 0
             have hfz49_1 := blk_frozen BK374.out 1
             have hfz49_2 := blk_frozen BK374.out 2
             have hfz49_3 := blk_frozen BK374.out 3
             have hfz49_4 := blk_frozen BK374.out 4
             have hnb50 := NB356_367.out
             have hnc50 := NB367_356.out
             have hcz51_0 := bc5_0 BK356.out
             have hcz51_1 := bc5_1 BK356.out
             have hcz51_2 := bc5_2 BK356.out
             have hcz51_3 := bc5_3 BK356.out
             have hcz51_4 := bc5_4 BK356.out
             have hfz51_0 := blk_frozen BK356.out 0
             have hfz51_1 := blk_frozen BK356.out 1
             have hfz51_2 := blk_frozen BK356.out 2
             have hfz51_3 := blk_frozen BK356.out 3
             have hfz51_4 := blk_frozen BK356.out 4
             go_wp2
             go_meet
             case rel => (try rw [← Nbq22.out]); exact ⟨_, (false), (by first | rfl | (simp; done) | (simp [*]; done)), H', ⟨by have := HK1.out; have := HJ4.out; have := HJ10.out; first | omega | exact Nat.le_refl _⟩, ⟨by (with_reducible repeat (first | refine blk_drewN ?_ _ | refine blk_drew ?_ | refine blk_alloc ?_ _)); exact BK356.out⟩, ⟨by (with_reducible repeat (first | refine blk_drewN ?_ _ | refine blk_drew ?_ | refine blk_alloc ?_ _)); exact BK367.out⟩, ⟨by (with_reducible repeat (first | refine blk_drewN ?_ _ | refine blk_drew ?_ | refine blk_alloc ?_ _)); exact BK374.out⟩, ⟨bw⟩⟩
          case rest =>
           clear HC32
           try clear c1
           try clear c2
           try clear p2
           try clear q2
           try clear c3
           try clear p3
           try clear q3
           try clear hx3
           try clear c4
           try clear c5
           try clear c6
           try clear c6b0
           try clear c7
           try clear c8
           try clear c8b0
           try clear c9
           try clear c9b0
           try clear c11
           try clear c12
           try clear c13
           try clear c18
           try clear c19
           try clear q22
           try clear c23
           try clear c25
           try clear c26
           try clear c28
           try clear c33
           try clear c35
           try clear c36
           try clear p36
           try clear q36
           try clear hx36
           try clear c38
           try clear c41
           try clear c41b0
           try clear c42
           try clear c43
           try clear c45
           try clear c47
           try clear c48
           try clear c50
           try clear hcz14_0
           try clear hcz14_1
           try clear hcz14_2
           try clear hcz14_3
           try clear hcz15_0
           try clear hcz15_1
           try clear hcz15_2
           try clear hcz15_3
           try clear hcz15_4
           try clear hcz20_0
           try clear hcz20_1
           try clear hcz20_2
           try clear hcz20_3
           try clear hcz20_4
           try clear hcz21_0
           try clear hcz21_1
           try clear hcz21_2
           try clear hcz21_3
           try clear hcz27_0
           try clear hcz27_1
           try clear hcz27_2
           try clear hcz27_3
           try clear hcz27_4
           try clear hcz29_0
           try clear hcz29_1
           try clear hcz29_2
           try clear hcz29_3
           try clear hcz31_0
           try clear hcz31_1
           try clear hcz31_2
           try clear hcz31_3
           try clear hcz31_4
           try clear hcz37_0
           try clear hcz37_1
           try clear hcz37_2
           try clear hcz37_3
           try clear hcz39_0
           try clear hcz39_1
           try clear hcz39_2
           try clear hcz39_3
           try clear hcz39_4
           try clear hcz44_0
           try clear hcz44_1
           try clear hcz44_2
           try clear hcz44_3
           try clear hcz44_4
           try clear hcz46_0
           try clear hcz46_1
           try clear hcz46_2
           try clear hcz46_3
           try clear hcz46_4
           try clear hcz49_0
           try clear hcz49_1
           try clear hcz49_2
           try clear hcz49_3
           try clear hcz49_4
           try clear hcz51_0
           try clear hcz51_1
           try clear hcz51_2
           try clear hcz51_3
           try clear hcz51_4
           try clear hfz14_0
           try clear hfz14_1
           try clear hfz14_2
           try clear hfz14_3
           try clear hfz15_0
           try clear hfz15_1
           try clear hfz15_2
           try clear hfz15_3
           try clear hfz15_4
           try clear hfz20_0
           try clear hfz20_1
           try clear hfz20_2
           try clear hfz20_3
           try clear hfz20_4
           try clear hfz21_0
           try clear hfz21_1
           try clear hfz21_2
           try clear hfz21_3
           try clear hfz27_0
           try clear hfz27_1
           try clear hfz27_2
           try clear hfz27_3
           try clear hfz27_4
           try clear hfz29_0
           try clear hfz29_1
           try clear hfz29_2
           try clear hfz29_3
           try clear hfz31_0
           try clear hfz31_1
           try clear hfz31_2
           try clear hfz31_3
           try clear hfz31_4
           try clear hfz37_0
           try clear hfz37_1
           try clear hfz37_2
           try clear hfz37_3
           try clear hfz39_0
           try clear hfz39_1
           try clear hfz39_2
           try clear hfz39_3
           try clear hfz39_4
           try clear hfz44_0
           try clear hfz44_1
           try clear hfz44_2
           try clear hfz44_3
           try clear hfz44_4
           try clear hfz46_0
           try clear hfz46_1
           try clear hfz46_2
           try clear hfz46_3
           try clear hfz46_4
           try clear hfz49_0
           try clear hfz49_1
           try clear hfz49_2
           try clear hfz49_3
           try clear hfz49_4
           try clear hfz51_0
           try clear hfz51_1
           try clear hfz51_2
           try clear hfz51_3
           try clear hfz51_4
           try clear hx366_0
           try clear hx366_1
           try clear hx366_2
           try clear hx366_3
           try clear p2
           try clear p3
           try clear p366
           try clear q2
           try clear q22
           try clear q3
           try clear q366
           obtain ⟨kq, x62_31, rfl, HA, HJ31, BK356, BK367, BK374, HB⟩ := hcut
           cases kq with
           | zero => exact absurd HA.out (by simp [carillonlaw10_AcceptorKeeps.j3])
           | succ kj31 =>
            have H := HA.out
            clear HA
            simp only [carillonlaw10_AcceptorKeeps.j3] at H
            by_cases c52 : x62_31 = true
            ·subst c52
             have H1 : (some false) = some r := by rw [if_pos rfl] at H; exact H
             clear H
             have H := H1
             clear H1
             exact absurd ((Option.some.inj H).trans hr_.out) (by decide)
            ·replace c52 := Bool.eq_false_iff.mpr c52
             subst c52
             have H1 : ((acceptor_Less.f x375000_10 x375001_10 x357000_1 x357001_1).bind fun t382 => (if t382 = true then (carillonlaw10_AcceptorKeeps.j4 kj31 l0 t355 x5_1 x8_10 true x357000_1 x357001_1 x357002_1 x357003_1 x357004_1 ((rd_T39 l0 x5_1).f0.f0) ((rd_T39 l0 x5_1).f0.f1) ((rd_T39 l0 x5_1).f1) ((rd_T39 l0 x5_1).f2) x375000_10 x375001_10 x375002_10 x375003_10 x375004_10) else ((acceptor_Less.f x375002_10 x375003_10 x357002_1 x357003_1).bind fun t383 => (if t383 = true then (carillonlaw10_AcceptorKeeps.j4 kj31 l0 t355 x5_1 x8_10 true x357000_1 x357001_1 x357002_1 x357003_1 x357004_1 ((rd_T39 l0 x5_1).f0.f0) ((rd_T39 l0 x5_1).f0.f1) ((rd_T39 l0 x5_1).f1) ((rd_T39 l0 x5_1).f2) x375000_10 x375001_10 x375002_10 x375003_10 x375004_10) else ((acceptor_Less.f x375000_10 x375001_10 x375002_10 x375003_10).bind fun t384 => (carillonlaw10_AcceptorKeeps.j4 kj31 l0 t355 x5_1 x8_10 t384 x357000_1 x357001_1 x357002_1 x357003_1 x357004_1 ((rd_T39 l0 x5_1).f0.f0) ((rd_T39 l0 x5_1).f0.f1) ((rd_T39 l0 x5_1).f1) ((rd_T39 l0 x5_1).f2) x375000_10 x375001_10 x375002_10 x375003_10 x375004_10)))))) = some r := by rw [if_neg (show ¬ (false = true) by decide)] at H; exact H
             clear H
             have H := H1
             clear H1
             have HC53 := Aside0.mk H
             clear H
             go_upto_region 12 with (fail)
             go_cut [81] (fun v81 wc => ∃ (kq : Nat) (x81_52 : Bool), v81 = .bool x81_52 ∧ Aside0 (carillonlaw10_AcceptorKeeps.j4 kq l0 t355 x5_1 x8_10 x81_52 x357000_1 x357001_1 x357002_1 x357003_1 x357004_1 ((rd_T39 l0 x5_1).f0.f0) ((rd_T39 l0 x5_1).f0.f1) ((rd_T39 l0 x5_1).f1) ((rd_T39 l0 x5_1).f2) x375000_10 x375001_10 x375002_10 x375003_10 x375004_10 = some r) ∧ Aside0 (kq ≤ kj31) ∧ Aside0 (wc.heap[gb356]? = some (.cells #[.int .i64 x357000_1, .int .i64 x357001_1, .int .i64 x357002_1, .int .i64 x357003_1, .string x357004_1] 25 (0, 0))) ∧ Aside0 (wc.heap[gb367]? = some (.cells #[.int .i64 ((rd_T39 l0 x5_1).f0.f0), .int .i64 ((rd_T39 l0 x5_1).f0.f1), .bool ((rd_T39 l0 x5_1).f1), .string ((rd_T39 l0 x5_1).f2)] 39 (0, 0))) ∧ Aside0 (wc.heap[gb374]? = some (.cells #[.int .i64 x375000_10, .int .i64 x375001_10, .int .i64 x375002_10, .int .i64 x375003_10, .string x375004_10] 25 (0, 0))) ∧ Aside0 (Below w.heap.size w wc))
             case first =>
              have H := HC53.out
              clear HC53
              replace H := Option.bind_eq_some_iff.mp H
              obtain ⟨t382, A540, H⟩ := H
              replace H : (if t382 = true then (carillonlaw10_AcceptorKeeps.j4 kj31 l0 t355 x5_1 x8_10 true x357000_1 x357001_1 x357002_1 x357003_1 x357004_1 ((rd_T39 l0 x5_1).f0.f0) ((rd_T39 l0 x5_1).f0.f1) ((rd_T39 l0 x5_1).f1) ((rd_T39 l0 x5_1).f2) x375000_10 x375001_10 x375002_10 x375003_10 x375004_10) else ((acceptor_Less.f x375002_10 x375003_10 x357002_1 x357003_1).bind fun t383 => (if t383 = true then (carillonlaw10_AcceptorKeeps.j4 kj31 l0 t355 x5_1 x8_10 true x357000_1 x357001_1 x357002_1 x357003_1 x357004_1 ((rd_T39 l0 x5_1).f0.f0) ((rd_T39 l0 x5_1).f0.f1) ((rd_T39 l0 x5_1).f1) ((rd_T39 l0 x5_1).f2) x375000_10 x375001_10 x375002_10 x375003_10 x375004_10) else ((acceptor_Less.f x375000_10 x375001_10 x375002_10 x375003_10).bind fun t384 => (carillonlaw10_AcceptorKeeps.j4 kj31 l0 t355 x5_1 x8_10 t384 x357000_1 x357001_1 x357002_1 x357003_1 x357004_1 ((rd_T39 l0 x5_1).f0.f0) ((rd_T39 l0 x5_1).f0.f1) ((rd_T39 l0 x5_1).f1) ((rd_T39 l0 x5_1).f2) x375000_10 x375001_10 x375002_10 x375003_10 x375004_10))))) = some r := H
              have A54 := Aside0.mk A540
              clear A540
              by_cases c55 : t382 = true
              ·subst c55
               have H1 : (carillonlaw10_AcceptorKeeps.j4 kj31 l0 t355 x5_1 x8_10 true x357000_1 x357001_1 x357002_1 x357003_1 x357004_1 ((rd_T39 l0 x5_1).f0.f0) ((rd_T39 l0 x5_1).f0.f1) ((rd_T39 l0 x5_1).f1) ((rd_T39 l0 x5_1).f2) x375000_10 x375001_10 x375002_10 x375003_10 x375004_10) = some r := by rw [if_pos rfl] at H; exact H
               clear H
               have H := H1
               clear H1
               have H' := Aside0.mk H
               clear H
               have hnb56 := NB374_356.out
               have hnc56 := NB356_374.out
               have hnb57 := NB374_367.out
               have hnc57 := NB367_374.out
               have hcz58_0 := bc5_0 BK374.out
               have hcz58_1 := bc5_1 BK374.out
               have hcz58_2 := bc5_2 BK374.out
               have hcz58_3 := bc5_3 BK374.out
               have hcz58_4 := bc5_4 BK374.out
               have hfz58_0 := blk_frozen BK374.out 0
               have hfz58_1 := blk_frozen BK374.out 1
               have hfz58_2 := blk_frozen BK374.out 2
               have hfz58_3 := blk_frozen BK374.out 3
               have hfz58_4 := blk_frozen BK374.out 4
               have hnb59 := NB356_367.out
               have hnc59 := NB367_356.out
               have hcz60_0 := bc5_0 BK356.out
               have hcz60_1 := bc5_1 BK356.out
               have hcz60_2 := bc5_2 BK356.out
               have hcz60_3 := bc5_3 BK356.out
               have hcz60_4 := bc5_4 BK356.out
               have hfz60_0 := blk_frozen BK356.out 0
               have hfz60_1 := blk_frozen BK356.out 1
               have hfz60_2 := blk_frozen BK356.out 2
               have hfz60_3 := blk_frozen BK356.out 3
               have hfz60_4 := blk_frozen BK356.out 4
               go_wp2_with (first | ((with_reducible refine gate_callee (f := 13) rfl ?_); refine goesL_ (some 67) rfl rfl Tryd.func13 (by kernel_rfl) rfl #[.agg #[.int .i64 x375000_10, .int .i64 x375001_10], .agg #[.int .i64 x357000_1, .int .i64 x357001_1]] rfl am ?_; (with_reducible refine (acceptor_Less.calls x375000_10 x375001_10 x357000_1 x357001_1 true _ A54.out).mono ?_); rintro e w61 ⟨rfl, hb⟩; refine ⟨_, rfl, ?_⟩; have n0_ := Aside0.mk (nb BK356.out hb); have n1_ := Aside0.mk (nb BK367.out hb); have n2_ := Aside0.mk (nb BK374.out hb); have n3_ := Aside0.mk (below_step bw hb); clear BK356; clear BK367; clear BK374; clear HB; have BK356 := n0_; have BK367 := n1_; have BK374 := n2_; have HB := n3_; clear n0_ n1_ n2_ n3_; (try clear hb); (try clear hb2); (try clear hk); (try clear hi)))
               go_meet
               case rel => (try rw [← Nbq22.out]); exact ⟨_, (true), (by first | rfl | (simp; done) | (simp [*]; done)), H', ⟨by have := HK1.out; have := HJ4.out; have := HJ10.out; have := HJ31.out; first | omega | exact Nat.le_refl _⟩, ⟨by (with_reducible repeat (first | refine blk_drewN ?_ _ | refine blk_drew ?_ | refine blk_alloc ?_ _)); exact BK356.out⟩, ⟨by (with_reducible repeat (first | refine blk_drewN ?_ _ | refine blk_drew ?_ | refine blk_alloc ?_ _)); exact BK367.out⟩, ⟨by (with_reducible repeat (first | refine blk_drewN ?_ _ | refine blk_drew ?_ | refine blk_alloc ?_ _)); exact BK374.out⟩, ⟨bw⟩⟩
              ·replace c55 := Bool.eq_false_iff.mpr c55
               subst c55
               have H1 : ((acceptor_Less.f x375002_10 x375003_10 x357002_1 x357003_1).bind fun t383 => (if t383 = true then (carillonlaw10_AcceptorKeeps.j4 kj31 l0 t355 x5_1 x8_10 true x357000_1 x357001_1 x357002_1 x357003_1 x357004_1 ((rd_T39 l0 x5_1).f0.f0) ((rd_T39 l0 x5_1).f0.f1) ((rd_T39 l0 x5_1).f1) ((rd_T39 l0 x5_1).f2) x375000_10 x375001_10 x375002_10 x375003_10 x375004_10) else ((acceptor_Less.f x375000_10 x375001_10 x375002_10 x375003_10).bind fun t384 => (carillonlaw10_AcceptorKeeps.j4 kj31 l0 t355 x5_1 x8_10 t384 x357000_1 x357001_1 x357002_1 x357003_1 x357004_1 ((rd_T39 l0 x5_1).f0.f0) ((rd_T39 l0 x5_1).f0.f1) ((rd_T39 l0 x5_1).f1) ((rd_T39 l0 x5_1).f2) x375000_10 x375001_10 x375002_10 x375003_10 x375004_10)))) = some r := by rw [if_neg (show ¬ (false = true) by decide)] at H; exact H
               clear H
               have H := H1
               clear H1
               replace H := Option.bind_eq_some_iff.mp H
               obtain ⟨t383, A620, H⟩ := H
               replace H : (if t383 = true then (carillonlaw10_AcceptorKeeps.j4 kj31 l0 t355 x5_1 x8_10 true x357000_1 x357001_1 x357002_1 x357003_1 x357004_1 ((rd_T39 l0 x5_1).f0.f0) ((rd_T39 l0 x5_1).f0.f1) ((rd_T39 l0 x5_1).f1) ((rd_T39 l0 x5_1).f2) x375000_10 x375001_10 x375002_10 x375003_10 x375004_10) else ((acceptor_Less.f x375000_10 x375001_10 x375002_10 x375003_10).bind fun t384 => (carillonlaw10_AcceptorKeeps.j4 kj31 l0 t355 x5_1 x8_10 t384 x357000_1 x357001_1 x357002_1 x357003_1 x357004_1 ((rd_T39 l0 x5_1).f0.f0) ((rd_T39 l0 x5_1).f0.f1) ((rd_T39 l0 x5_1).f1) ((rd_T39 l0 x5_1).f2) x375000_10 x375001_10 x375002_10 x375003_10 x375004_10))) = some r := H
               have A62 := Aside0.mk A620
               clear A620
               by_cases c63 : t383 = true
               ·subst c63
                have H1 : (carillonlaw10_AcceptorKeeps.j4 kj31 l0 t355 x5_1 x8_10 true x357000_1 x357001_1 x357002_1 x357003_1 x357004_1 ((rd_T39 l0 x5_1).f0.f0) ((rd_T39 l0 x5_1).f0.f1) ((rd_T39 l0 x5_1).f1) ((rd_T39 l0 x5_1).f2) x375000_10 x375001_10 x375002_10 x375003_10 x375004_10) = some r := by rw [if_pos rfl] at H; exact H
                clear H
                have H := H1
                clear H1
                have H' := Aside0.mk H
                clear H
                have hnb64 := NB374_356.out
                have hnc64 := NB356_374.out
                have hnb65 := NB374_367.out
                have hnc65 := NB367_374.out
                have hcz66_0 := bc5_0 BK374.out
                have hcz66_1 := bc5_1 BK374.out
                have hcz66_2 := bc5_2 BK374.out
                have hcz66_3 := bc5_3 BK374.out
                have hcz66_4 := bc5_4 BK374.out
                have hfz66_0 := blk_frozen BK374.out 0
                have hfz66_1 := blk_frozen BK374.out 1
                have hfz66_2 := blk_frozen BK374.out 2
                have hfz66_3 := blk_frozen BK374.out 3
                have hfz66_4 := blk_frozen BK374.out 4
                have hnb67 := NB356_367.out
                have hnc67 := NB367_356.out
                have hcz68_0 := bc5_0 BK356.out
                have hcz68_1 := bc5_1 BK356.out
                have hcz68_2 := bc5_2 BK356.out
                have hcz68_3 := bc5_3 BK356.out
                have hcz68_4 := bc5_4 BK356.out
                have hfz68_0 := blk_frozen BK356.out 0
                have hfz68_1 := blk_frozen BK356.out 1
                have hfz68_2 := blk_frozen BK356.out 2
                have hfz68_3 := blk_frozen BK356.out 3
                have hfz68_4 := blk_frozen BK356.out 4
                go_wp2_with (first | ((with_reducible refine gate_callee (f := 13) rfl ?_); refine goesL_ (some 67) rfl rfl Tryd.func13 (by kernel_rfl) rfl #[.agg #[.int .i64 x375000_10, .int .i64 x375001_10], .agg #[.int .i64 x357000_1, .int .i64 x357001_1]] rfl am ?_; (with_reducible refine (acceptor_Less.calls x375000_10 x375001_10 x357000_1 x357001_1 false _ A54.out).mono ?_); rintro e w69 ⟨rfl, hb⟩; refine ⟨_, rfl, ?_⟩; have n0_ := Aside0.mk (nb BK356.out hb); have n1_ := Aside0.mk (nb BK367.out hb); have n2_ := Aside0.mk (nb BK374.out hb); have n3_ := Aside0.mk (below_step bw hb); clear BK356; clear BK367; clear BK374; clear HB; have BK356 := n0_; have BK367 := n1_; have BK374 := n2_; have HB := n3_; clear n0_ n1_ n2_ n3_; (try clear hb); (try clear hb2); (try clear hk); (try clear hi); have hcz70_0 := bc5_0 BK374.out; have hcz70_1 := bc5_1 BK374.out; have hcz70_2 := bc5_2 BK374.out; have hcz70_3 := bc5_3 BK374.out; have hcz70_4 := bc5_4 BK374.out; have hfz70_0 := blk_frozen BK374.out 0; have hfz70_1 := blk_frozen BK374.out 1; have hfz70_2 := blk_frozen BK374.out 2; have hfz70_3 := blk_frozen BK374.out 3; have hfz70_4 := blk_frozen BK374.out 4; have hcz71_0 := bc5_0 BK356.out; have hcz71_1 := bc5_1 BK356.out; have hcz71_2 := bc5_2 BK356.out; have hcz71_3 := bc5_3 BK356.out; have hcz71_4 := bc5_4 BK356.out; have hfz71_0 := blk_frozen BK356.out 0; have hfz71_1 := blk_frozen BK356.out 1; have hfz71_2 := blk_frozen BK356.out 2; have hfz71_3 := blk_frozen BK356.out 3; have hfz71_4 := blk_frozen BK356.out 4) | (go_at_call 13; (with_reducible refine (acceptor_Less.calls x375002_10 x375003_10 x357002_1 x357003_1 true _ A62.out).mono ?_); rintro e w72 ⟨rfl, hb⟩; have n0_ := Aside0.mk (nb BK356.out hb); have n1_ := Aside0.mk (nb BK367.out hb); have n2_ := Aside0.mk (nb BK374.out hb); have n3_ := Aside0.mk (below_step bw hb); clear BK356; clear BK367; clear BK374; clear HB; have BK356 := n0_; have BK367 := n1_; have BK374 := n2_; have HB := n3_; clear n0_ n1_ n2_ n3_; (try clear hb); (try clear hb2); (try clear hk); (try clear hi)))
                go_meet
                case rel => (try rw [← Nbq22.out]); exact ⟨_, (true), (by first | rfl | (simp; done) | (simp [*]; done)), H', ⟨by have := HK1.out; have := HJ4.out; have := HJ10.out; have := HJ31.out; first | omega | exact Nat.le_refl _⟩, ⟨by (with_reducible repeat (first | refine blk_drewN ?_ _ | refine blk_drew ?_ | refine blk_alloc ?_ _)); exact BK356.out⟩, ⟨by (with_reducible repeat (first | refine blk_drewN ?_ _ | refine blk_drew ?_ | refine blk_alloc ?_ _)); exact BK367.out⟩, ⟨by (with_reducible repeat (first | refine blk_drewN ?_ _ | refine blk_drew ?_ | refine blk_alloc ?_ _)); exact BK374.out⟩, ⟨bw⟩⟩
               ·replace c63 := Bool.eq_false_iff.mpr c63
                subst c63
                have H1 : ((acceptor_Less.f x375000_10 x375001_10 x375002_10 x375003_10).bind fun t384 => (carillonlaw10_AcceptorKeeps.j4 kj31 l0 t355 x5_1 x8_10 t384 x357000_1 x357001_1 x357002_1 x357003_1 x357004_1 ((rd_T39 l0 x5_1).f0.f0) ((rd_T39 l0 x5_1).f0.f1) ((rd_T39 l0 x5_1).f1) ((rd_T39 l0 x5_1).f2) x375000_10 x375001_10 x375002_10 x375003_10 x375004_10)) = some r := by rw [if_neg (show ¬ (false = true) by decide)] at H; exact H
                clear H
                have H := H1
                clear H1
                replace H := Option.bind_eq_some_iff.mp H
                obtain ⟨t384, A730, H⟩ := H
                replace H : (carillonlaw10_AcceptorKeeps.j4 kj31 l0 t355 x5_1 x8_10 t384 x357000_1 x357001_1 x357002_1 x357003_1 x357004_1 ((rd_T39 l0 x5_1).f0.f0) ((rd_T39 l0 x5_1).f0.f1) ((rd_T39 l0 x5_1).f1) ((rd_T39 l0 x5_1).f2) x375000_10 x375001_10 x375002_10 x375003_10 x375004_10) = some r := H
                have A73 := Aside0.mk A730
                clear A730
                have H' := Aside0.mk H
                clear H
                have hnb74 := NB374_356.out
                have hnc74 := NB356_374.out
                have hnb75 := NB374_367.out
                have hnc75 := NB367_374.out
                have hcz76_0 := bc5_0 BK374.out
                have hcz76_1 := bc5_1 BK374.out
                have hcz76_2 := bc5_2 BK374.out
                have hcz76_3 := bc5_3 BK374.out
                have hcz76_4 := bc5_4 BK374.out
                have hfz76_0 := blk_frozen BK374.out 0
                have hfz76_1 := blk_frozen BK374.out 1
                have hfz76_2 := blk_frozen BK374.out 2
                have hfz76_3 := blk_frozen BK374.out 3
                have hfz76_4 := blk_frozen BK374.out 4
                have hnb77 := NB356_367.out
                have hnc77 := NB367_356.out
                have hcz78_0 := bc5_0 BK356.out
                have hcz78_1 := bc5_1 BK356.out
                have hcz78_2 := bc5_2 BK356.out
                have hcz78_3 := bc5_3 BK356.out
                have hcz78_4 := bc5_4 BK356.out
                have hfz78_0 := blk_frozen BK356.out 0
                have hfz78_1 := blk_frozen BK356.out 1
                have hfz78_2 := blk_frozen BK356.out 2
                have hfz78_3 := blk_frozen BK356.out 3
                have hfz78_4 := blk_frozen BK356.out 4
                go_wp2_with (first | ((with_reducible refine gate_callee (f := 13) rfl ?_); refine goesL_ (some 67) rfl rfl Tryd.func13 (by kernel_rfl) rfl #[.agg #[.int .i64 x375000_10, .int .i64 x375001_10], .agg #[.int .i64 x357000_1, .int .i64 x357001_1]] rfl am ?_; (with_reducible refine (acceptor_Less.calls x375000_10 x375001_10 x357000_1 x357001_1 false _ A54.out).mono ?_); rintro e w79 ⟨rfl, hb⟩; refine ⟨_, rfl, ?_⟩; have n0_ := Aside0.mk (nb BK356.out hb); have n1_ := Aside0.mk (nb BK367.out hb); have n2_ := Aside0.mk (nb BK374.out hb); have n3_ := Aside0.mk (below_step bw hb); clear BK356; clear BK367; clear BK374; clear HB; have BK356 := n0_; have BK367 := n1_; have BK374 := n2_; have HB := n3_; clear n0_ n1_ n2_ n3_; (try clear hb); (try clear hb2); (try clear hk); (try clear hi); have hcz80_0 := bc5_0 BK374.out; have hcz80_1 := bc5_1 BK374.out; have hcz80_2 := bc5_2 BK374.out; have hcz80_3 := bc5_3 BK374.out; have hcz80_4 := bc5_4 BK374.out; have hfz80_0 := blk_frozen BK374.out 0; have hfz80_1 := blk_frozen BK374.out 1; have hfz80_2 := blk_frozen BK374.out 2; have hfz80_3 := blk_frozen BK374.out 3; have hfz80_4 := blk_frozen BK374.out 4; have hcz81_0 := bc5_0 BK356.out; have hcz81_1 := bc5_1 BK356.out; have hcz81_2 := bc5_2 BK356.out; have hcz81_3 := bc5_3 BK356.out; have hcz81_4 := bc5_4 BK356.out; have hfz81_0 := blk_frozen BK356.out 0; have hfz81_1 := blk_frozen BK356.out 1; have hfz81_2 := blk_frozen BK356.out 2; have hfz81_3 := blk_frozen BK356.out 3; have hfz81_4 := blk_frozen BK356.out 4) | (go_at_call 13; (with_reducible refine (acceptor_Less.calls x375002_10 x375003_10 x357002_1 x357003_1 false _ A62.out).mono ?_); rintro e w82 ⟨rfl, hb⟩; have n0_ := Aside0.mk (nb BK356.out hb); have n1_ := Aside0.mk (nb BK367.out hb); have n2_ := Aside0.mk (nb BK374.out hb); have n3_ := Aside0.mk (below_step bw hb); clear BK356; clear BK367; clear BK374; clear HB; have BK356 := n0_; have BK367 := n1_; have BK374 := n2_; have HB := n3_; clear n0_ n1_ n2_ n3_; (try clear hb); (try clear hb2); (try clear hk); (try clear hi); have hcz83_0 := bc5_0 BK374.out; have hcz83_1 := bc5_1 BK374.out; have hcz83_2 := bc5_2 BK374.out; have hcz83_3 := bc5_3 BK374.out; have hcz83_4 := bc5_4 BK374.out; have hfz83_0 := blk_frozen BK374.out 0; have hfz83_1 := blk_frozen BK374.out 1; have hfz83_2 := blk_frozen BK374.out 2; have hfz83_3 := blk_frozen BK374.out 3; have hfz83_4 := blk_frozen BK374.out 4) | (go_at_call 13; (with_reducible refine (acceptor_Less.calls x375000_10 x375001_10 x375002_10 x375003_10 t384 _ A73.out).mono ?_); rintro e w84 ⟨rfl, hb⟩; have n0_ := Aside0.mk (nb BK356.out hb); have n1_ := Aside0.mk (nb BK367.out hb); have n2_ := Aside0.mk (nb BK374.out hb); have n3_ := Aside0.mk (below_step bw hb); clear BK356; clear BK367; clear BK374; clear HB; have BK356 := n0_; have BK367 := n1_; have BK374 := n2_; have HB := n3_; clear n0_ n1_ n2_ n3_; (try clear hb); (try clear hb2); (try clear hk); (try clear hi)))
                go_meet
                case rel => (try rw [← Nbq22.out]); exact ⟨_, (t384), (by first | rfl | (simp; done) | (simp [*]; done)), H', ⟨by have := HK1.out; have := HJ4.out; have := HJ10.out; have := HJ31.out; first | omega | exact Nat.le_refl _⟩, ⟨by (with_reducible repeat (first | refine blk_drewN ?_ _ | refine blk_drew ?_ | refine blk_alloc ?_ _)); exact BK356.out⟩, ⟨by (with_reducible repeat (first | refine blk_drewN ?_ _ | refine blk_drew ?_ | refine blk_alloc ?_ _)); exact BK367.out⟩, ⟨by (with_reducible repeat (first | refine blk_drewN ?_ _ | refine blk_drew ?_ | refine blk_alloc ?_ _)); exact BK374.out⟩, ⟨bw⟩⟩
             case rest =>
              clear HC53
              try clear c1
              try clear c2
              try clear p2
              try clear q2
              try clear c3
              try clear p3
              try clear q3
              try clear hx3
              try clear c4
              try clear c5
              try clear c6
              try clear c6b0
              try clear c7
              try clear c8
              try clear c8b0
              try clear c9
              try clear c9b0
              try clear c11
              try clear c12
              try clear c13
              try clear c18
              try clear c19
              try clear q22
              try clear c23
              try clear c25
              try clear c26
              try clear c28
              try clear c33
              try clear c35
              try clear c36
              try clear p36
              try clear q36
              try clear hx36
              try clear c38
              try clear c41
              try clear c41b0
              try clear c42
              try clear c43
              try clear c45
              try clear c47
              try clear c48
              try clear c50
              try clear c52
              try clear c55
              try clear c56
              try clear c57
              try clear c59
              try clear c63
              try clear c64
              try clear c65
              try clear c67
              try clear c74
              try clear c75
              try clear c77
              try clear hcz14_0
              try clear hcz14_1
              try clear hcz14_2
              try clear hcz14_3
              try clear hcz15_0
              try clear hcz15_1
              try clear hcz15_2
              try clear hcz15_3
              try clear hcz15_4
              try clear hcz20_0
              try clear hcz20_1
              try clear hcz20_2
              try clear hcz20_3
              try clear hcz20_4
              try clear hcz21_0
              try clear hcz21_1
              try clear hcz21_2
              try clear hcz21_3
              try clear hcz27_0
              try clear hcz27_1
              try clear hcz27_2
              try clear hcz27_3
              try clear hcz27_4
              try clear hcz29_0
              try clear hcz29_1
              try clear hcz29_2
              try clear hcz29_3
              try clear hcz31_0
              try clear hcz31_1
              try clear hcz31_2
              try clear hcz31_3
              try clear hcz31_4
              try clear hcz37_0
              try clear hcz37_1
              try clear hcz37_2
              try clear hcz37_3
              try clear hcz39_0
              try clear hcz39_1
              try clear hcz39_2
              try clear hcz39_3
              try clear hcz39_4
              try clear hcz44_0
              try clear hcz44_1
              try clear hcz44_2
              try clear hcz44_3
              try clear hcz44_4
              try clear hcz46_0
              try clear hcz46_1
              try clear hcz46_2
              try clear hcz46_3
              try clear hcz46_4
              try clear hcz49_0
              try clear hcz49_1
              try clear hcz49_2
              try clear hcz49_3
              try clear hcz49_4
              try clear hcz51_0
              try clear hcz51_1
              try clear hcz51_2
              try clear hcz51_3
              try clear hcz51_4
              try clear hcz58_0
              try clear hcz58_1
              try clear hcz58_2
              try clear hcz58_3
              try clear hcz58_4
              try clear hcz60_0
              try clear hcz60_1
              try clear hcz60_2
              try clear hcz60_3
              try clear hcz60_4
              try clear hcz66_0
              try clear hcz66_1
              try clear hcz66_2
              try clear hcz66_3
              try clear hcz66_4
              try clear hcz68_0
              try clear hcz68_1
              try clear hcz68_2
              try clear hcz68_3
              try clear hcz68_4
              try clear hcz70_0
              try clear hcz70_1
              try clear hcz70_2
              try clear hcz70_3
              try clear hcz70_4
              try clear hcz71_0
              try clear hcz71_1
              try clear hcz71_2
              try clear hcz71_3
              try clear hcz71_4
              try clear hcz76_0
              try clear hcz76_1
              try clear hcz76_2
              try clear hcz76_3
              try clear hcz76_4
              try clear hcz78_0
              try clear hcz78_1
              try clear hcz78_2
              try clear hcz78_3
              try clear hcz78_4
              try clear hcz80_0
              try clear hcz80_1
              try clear hcz80_2
              try clear hcz80_3
              try clear hcz80_4
              try clear hcz81_0
              try clear hcz81_1
              try clear hcz81_2
              try clear hcz81_3
              try clear hcz81_4
              try clear hcz83_0
              try clear hcz83_1
              try clear hcz83_2
              try clear hcz83_3
              try clear hcz83_4
              try clear hfz14_0
              try clear hfz14_1
              try clear hfz14_2
              try clear hfz14_3
              try clear hfz15_0
              try clear hfz15_1
              try clear hfz15_2
              try clear hfz15_3
              try clear hfz15_4
              try clear hfz20_0
              try clear hfz20_1
              try clear hfz20_2
              try clear hfz20_3
              try clear hfz20_4
              try clear hfz21_0
              try clear hfz21_1
              try clear hfz21_2
              try clear hfz21_3
              try clear hfz27_0
              try clear hfz27_1
              try clear hfz27_2
              try clear hfz27_3
              try clear hfz27_4
              try clear hfz29_0
              try clear hfz29_1
              try clear hfz29_2
              try clear hfz29_3
              try clear hfz31_0
              try clear hfz31_1
              try clear hfz31_2
              try clear hfz31_3
              try clear hfz31_4
              try clear hfz37_0
              try clear hfz37_1
              try clear hfz37_2
              try clear hfz37_3
              try clear hfz39_0
              try clear hfz39_1
              try clear hfz39_2
              try clear hfz39_3
              try clear hfz39_4
              try clear hfz44_0
              try clear hfz44_1
              try clear hfz44_2
              try clear hfz44_3
              try clear hfz44_4
              try clear hfz46_0
              try clear hfz46_1
              try clear hfz46_2
              try clear hfz46_3
              try clear hfz46_4
              try clear hfz49_0
              try clear hfz49_1
              try clear hfz49_2
              try clear hfz49_3
              try clear hfz49_4
              try clear hfz51_0
              try clear hfz51_1
              try clear hfz51_2
              try clear hfz51_3
              try clear hfz51_4
              try clear hfz58_0
              try clear hfz58_1
              try clear hfz58_2
              try clear hfz58_3
              try clear hfz58_4
              try clear hfz60_0
              try clear hfz60_1
              try clear hfz60_2
              try clear hfz60_3
              try clear hfz60_4
              try clear hfz66_0
              try clear hfz66_1
              try clear hfz66_2
              try clear hfz66_3
              try clear hfz66_4
              try clear hfz68_0
              try clear hfz68_1
              try clear hfz68_2
              try clear hfz68_3
              try clear hfz68_4
              try clear hfz70_0
              try clear hfz70_1
              try clear hfz70_2
              try clear hfz70_3
              try clear hfz70_4
              try clear hfz71_0
              try clear hfz71_1
              try clear hfz71_2
              try clear hfz71_3
              try clear hfz71_4
              try clear hfz76_0
              try clear hfz76_1
              try clear hfz76_2
              try clear hfz76_3
              try clear hfz76_4
              try clear hfz78_0
              try clear hfz78_1
              try clear hfz78_2
              try clear hfz78_3
              try clear hfz78_4
              try clear hfz80_0
              try clear hfz80_1
              try clear hfz80_2
              try clear hfz80_3
              try clear hfz80_4
              try clear hfz81_0
              try clear hfz81_1
              try clear hfz81_2
              try clear hfz81_3
              try clear hfz81_4
              try clear hfz83_0
              try clear hfz83_1
              try clear hfz83_2
              try clear hfz83_3
              try clear hfz83_4
              try clear hx366_0
              try clear hx366_1
              try clear hx366_2
              try clear hx366_3
              try clear p2
              try clear p3
              try clear p36
              try clear p366
              try clear q2
              try clear q22
              try clear q3
              try clear q36
              try clear q366
              obtain ⟨kq, x81_52, rfl, HA, HJ52, BK356, BK367, BK374, HB⟩ := hcut
              cases kq with
              | zero => exact absurd HA.out (by simp [carillonlaw10_AcceptorKeeps.j4])
              | succ kj52 =>
               have H := HA.out
               clear HA
               simp only [carillonlaw10_AcceptorKeeps.j4] at H
               by_cases c85 : x81_52 = true
               ·subst c85
                have H1 : (some false) = some r := by rw [if_pos rfl] at H; exact H
                clear H
                have H := H1
                clear H1
                exact absurd ((Option.some.inj H).trans hr_.out) (by decide)
               ·replace c85 := Bool.eq_false_iff.mpr c85
                subst c85
                have H1 : (if (x375002_10 == x357002_1 && (x375003_10 == x357003_1)) = true then (if x375004_10.toList = x357004_1.toList then (if x8_10 = true then (if ((rd_T39 l0 x5_1).f1) = true then (if (!(x375002_10 == ((rd_T39 l0 x5_1).f0.f0)) || (!(x375003_10 == ((rd_T39 l0 x5_1).f0.f1)))) = true then (some false) else (if x375004_10.toList = ((rd_T39 l0 x5_1).f2).toList then (carillonlaw10_AcceptorKeeps.l0 kj52 l0 t355 (wrap64 (x5_1 + 1)) x375000_10 x375001_10 x375002_10 x375003_10 x375004_10) else (some false))) else (carillonlaw10_AcceptorKeeps.l0 kj52 l0 t355 (wrap64 (x5_1 + 1)) x375000_10 x375001_10 x375002_10 x375003_10 x375004_10)) else (carillonlaw10_AcceptorKeeps.l0 kj52 l0 t355 (wrap64 (x5_1 + 1)) x375000_10 x375001_10 x375002_10 x375003_10 x375004_10)) else (some false)) else (if x8_10 = true then (if ((rd_T39 l0 x5_1).f1) = true then (if (!(x375002_10 == ((rd_T39 l0 x5_1).f0.f0)) || (!(x375003_10 == ((rd_T39 l0 x5_1).f0.f1)))) = true then (some false) else (if x375004_10.toList = ((rd_T39 l0 x5_1).f2).toList then (carillonlaw10_AcceptorKeeps.l0 kj52 l0 t355 (wrap64 (x5_1 + 1)) x375000_10 x375001_10 x375002_10 x375003_10 x375004_10) else (some false))) else (carillonlaw10_AcceptorKeeps.l0 kj52 l0 t355 (wrap64 (x5_1 + 1)) x375000_10 x375001_10 x375002_10 x375003_10 x375004_10)) else (carillonlaw10_AcceptorKeeps.l0 kj52 l0 t355 (wrap64 (x5_1 + 1)) x375000_10 x375001_10 x375002_10 x375003_10 x375004_10))) = some r := by rw [if_neg (show ¬ (false = true) by decide)] at H; exact H
                clear H
                have H := H1
                clear H1
                by_cases c86 : (x375002_10 == x357002_1 && (x375003_10 == x357003_1)) = true
                ·rw [if_pos c86] at H
                 have c86b0 : (x375002_10 == x357002_1 && (x375003_10 == x357003_1)) = true := c86
                 (try (have c86b1 : decide (x375002_10 = x357002_1 && (x375003_10 == x357003_1)) = true := by simpa using c86))
                 (try (have c86b2 : (x375002_10 == x357002_1 && (x375003_10 == x357003_1)) = true := by simpa using c86))
                 clear c86
                 by_cases c87 : x375004_10.toList = x357004_1.toList
                 ·rw [if_pos c87] at H
                  have c87b0 : (x375004_10.toList == x357004_1.toList) = true := beq_iff_eq.mpr c87
                  (try simp only [c87b0, Bool.not_true, Bool.not_false, Bool.false_or, Bool.true_or, Bool.true_and, Bool.false_and, Bool.true_beq, Bool.false_beq, beq_true, beq_false] at c41b0)
                  (try simp only [c87b0, Bool.not_true, Bool.not_false, Bool.false_or, Bool.true_or, Bool.true_and, Bool.false_and, Bool.true_beq, Bool.false_beq, beq_true, beq_false] at c41b0)
                  have c87b1 : (x375004_10.toList != x357004_1.toList) = false := bne_eq_false_iff_eq.mpr c87
                  clear c87
                  by_cases c88 : x8_10 = true
                  ·subst c88
                   have H1 : (if ((rd_T39 l0 x5_1).f1) = true then (if (!(x375002_10 == ((rd_T39 l0 x5_1).f0.f0)) || (!(x375003_10 == ((rd_T39 l0 x5_1).f0.f1)))) = true then (some false) else (if x375004_10.toList = ((rd_T39 l0 x5_1).f2).toList then (carillonlaw10_AcceptorKeeps.l0 kj52 l0 t355 (wrap64 (x5_1 + 1)) x375000_10 x375001_10 x375002_10 x375003_10 x375004_10) else (some false))) else (carillonlaw10_AcceptorKeeps.l0 kj52 l0 t355 (wrap64 (x5_1 + 1)) x375000_10 x375001_10 x375002_10 x375003_10 x375004_10)) = some r := by rw [if_pos rfl] at H; exact H
                   clear H
                   have H := H1
                   clear H1
                   by_cases c89 : ((rd_T39 l0 x5_1).f1) = true
                   ·rw [if_pos c89] at H
                    have c89b0 : ((rd_T39 l0 x5_1).f1) = true := c89
                    clear c89
                    by_cases c90 : (!(x375002_10 == ((rd_T39 l0 x5_1).f0.f0)) || (!(x375003_10 == ((rd_T39 l0 x5_1).f0.f1)))) = true
                    ·rw [if_pos c90] at H
                     have c90b0 : (!(x375002_10 == ((rd_T39 l0 x5_1).f0.f0)) || (!(x375003_10 == ((rd_T39 l0 x5_1).f0.f1)))) = true := c90
                     clear c90
                     exact absurd ((Option.some.inj H).trans hr_.out) (by decide)
                    ·rw [if_neg c90] at H
                     have c90b0 : (!(x375002_10 == ((rd_T39 l0 x5_1).f0.f0)) || (!(x375003_10 == ((rd_T39 l0 x5_1).f0.f1)))) = false := by simpa using c90
                     clear c90
                     by_cases c91 : x375004_10.toList = ((rd_T39 l0 x5_1).f2).toList
                     ·rw [if_pos c91] at H
                      have c91b0 : (x375004_10.toList == ((rd_T39 l0 x5_1).f2).toList) = true := beq_iff_eq.mpr c91
                      have c91b1 : (x375004_10.toList != ((rd_T39 l0 x5_1).f2).toList) = false := bne_eq_false_iff_eq.mpr c91
                      clear c91
                      have H' := Aside0.mk H
                      clear H
                      have hnb92 := NB374_356.out
                      have hnc92 := NB356_374.out
                      have hnb93 := NB374_367.out
                      have hnc93 := NB367_374.out
                      have hcz94_0 := bc5_0 BK374.out
                      have hcz94_1 := bc5_1 BK374.out
                      have hcz94_2 := bc5_2 BK374.out
                      have hcz94_3 := bc5_3 BK374.out
                      have hcz94_4 := bc5_4 BK374.out
                      have hfz94_0 := blk_frozen BK374.out 0
                      have hfz94_1 := blk_frozen BK374.out 1
                      have hfz94_2 := blk_frozen BK374.out 2
                      have hfz94_3 := blk_frozen BK374.out 3
                      have hfz94_4 := blk_frozen BK374.out 4
                      have hnb95 := NB356_367.out
                      have hnc95 := NB367_356.out
                      have hcz96_0 := bc5_0 BK356.out
                      have hcz96_1 := bc5_1 BK356.out
                      have hcz96_2 := bc5_2 BK356.out
                      have hcz96_3 := bc5_3 BK356.out
                      have hcz96_4 := bc5_4 BK356.out
                      have hfz96_0 := blk_frozen BK356.out 0
                      have hfz96_1 := blk_frozen BK356.out 1
                      have hfz96_2 := blk_frozen BK356.out 2
                      have hfz96_3 := blk_frozen BK356.out 3
                      have hfz96_4 := blk_frozen BK356.out 4
                      have hcz97_0 := bc4_0 BK367.out
                      have hcz97_1 := bc4_1 BK367.out
                      have hcz97_2 := bc4_2 BK367.out
                      have hcz97_3 := bc4_3 BK367.out
                      have hfz97_0 := blk_frozen BK367.out 0
                      have hfz97_1 := blk_frozen BK367.out 1
                      have hfz97_2 := blk_frozen BK367.out 2
                      have hfz97_3 := blk_frozen BK367.out 3
                      go_wp2
                      go_roundg kj52
                      case measure => have := HK1.out; have := HJ4.out; have := HJ10.out; have := HJ31.out; have := HJ52.out; omega
                      case rel => (try rw [← Nbq22.out]); exact ⟨(wrap64 (x5_1 + 1)), (x375000_10), (x375001_10), (x375002_10), (x375003_10), (x375004_10), (by first | rfl | (simp; done) | (simp [*]; done)), H', ⟨by have := HK1.out; have := HJ4.out; have := HJ10.out; have := HJ31.out; have := HJ52.out; omega⟩, ⟨by (with_reducible repeat (first | refine blk_drewN ?_ _ | refine blk_drew ?_ | refine blk_alloc ?_ _)); refine blk_put (cs := #[.int .i64 x375000_10, .int .i64 x375001_10, .int .i64 x375002_10, .int .i64 x375003_10, .string x357004_1]) ?_ 4 _ rfl; (with_reducible repeat (first | refine blk_drewN ?_ _ | refine blk_drew ?_ | refine blk_alloc ?_ _)); refine blk_put (cs := #[.int .i64 x375000_10, .int .i64 x375001_10, .int .i64 x375002_10, .int .i64 x357003_1, .string x357004_1]) ?_ 3 _ rfl; (with_reducible repeat (first | refine blk_drewN ?_ _ | refine blk_drew ?_ | refine blk_alloc ?_ _)); refine blk_put (cs := #[.int .i64 x375000_10, .int .i64 x375001_10, .int .i64 x357002_1, .int .i64 x357003_1, .string x357004_1]) ?_ 2 _ rfl; (with_reducible repeat (first | refine blk_drewN ?_ _ | refine blk_drew ?_ | refine blk_alloc ?_ _)); refine blk_put (cs := #[.int .i64 x375000_10, .int .i64 x357001_1, .int .i64 x357002_1, .int .i64 x357003_1, .string x357004_1]) ?_ 1 _ rfl; (with_reducible repeat (first | refine blk_drewN ?_ _ | refine blk_drew ?_ | refine blk_alloc ?_ _)); refine blk_put (cs := #[.int .i64 x357000_1, .int .i64 x357001_1, .int .i64 x357002_1, .int .i64 x357003_1, .string x357004_1]) ?_ 0 _ rfl; (with_reducible repeat (first | refine blk_drewN ?_ _ | refine blk_drew ?_ | refine blk_alloc ?_ _)); exact BK356.out⟩, ⟨bw⟩⟩
                     ·rw [if_neg c91] at H
                      have c91b0 : (x375004_10.toList == ((rd_T39 l0 x5_1).f2).toList) = false := beq_eq_false_iff_ne.mpr c91
                      have c91b1 : (x375004_10.toList != ((rd_T39 l0 x5_1).f2).toList) = true := bne_iff_ne.mpr c91
                      exact absurd ((Option.some.inj H).trans hr_.out) (by decide)
                   ·rw [if_neg c89] at H
                    have c89b0 : ((rd_T39 l0 x5_1).f1) = false := by simpa using c89
                    clear c89
                    have H' := Aside0.mk H
                    clear H
                    have hnb98 := NB374_356.out
                    have hnc98 := NB356_374.out
                    have hnb99 := NB374_367.out
                    have hnc99 := NB367_374.out
                    have hcz100_0 := bc5_0 BK374.out
                    have hcz100_1 := bc5_1 BK374.out
                    have hcz100_2 := bc5_2 BK374.out
                    have hcz100_3 := bc5_3 BK374.out
                    have hcz100_4 := bc5_4 BK374.out
                    have hfz100_0 := blk_frozen BK374.out 0
                    have hfz100_1 := blk_frozen BK374.out 1
                    have hfz100_2 := blk_frozen BK374.out 2
                    have hfz100_3 := blk_frozen BK374.out 3
                    have hfz100_4 := blk_frozen BK374.out 4
                    have hnb101 := NB356_367.out
                    have hnc101 := NB367_356.out
                    have hcz102_0 := bc5_0 BK356.out
                    have hcz102_1 := bc5_1 BK356.out
                    have hcz102_2 := bc5_2 BK356.out
                    have hcz102_3 := bc5_3 BK356.out
                    have hcz102_4 := bc5_4 BK356.out
                    have hfz102_0 := blk_frozen BK356.out 0
                    have hfz102_1 := blk_frozen BK356.out 1
                    have hfz102_2 := blk_frozen BK356.out 2
                    have hfz102_3 := blk_frozen BK356.out 3
                    have hfz102_4 := blk_frozen BK356.out 4
                    have hcz103_0 := bc4_0 BK367.out
                    have hcz103_1 := bc4_1 BK367.out
                    have hcz103_2 := bc4_2 BK367.out
                    have hcz103_3 := bc4_3 BK367.out
                    have hfz103_0 := blk_frozen BK367.out 0
                    have hfz103_1 := blk_frozen BK367.out 1
                    have hfz103_2 := blk_frozen BK367.out 2
                    have hfz103_3 := blk_frozen BK367.out 3
                    go_wp2
                    go_roundg kj52
                    case measure => have := HK1.out; have := HJ4.out; have := HJ10.out; have := HJ31.out; have := HJ52.out; omega
                    case rel => (try rw [← Nbq22.out]); exact ⟨(wrap64 (x5_1 + 1)), (x375000_10), (x375001_10), (x375002_10), (x375003_10), (x375004_10), (by first | rfl | (simp; done) | (simp [*]; done)), H', ⟨by have := HK1.out; have := HJ4.out; have := HJ10.out; have := HJ31.out; have := HJ52.out; omega⟩, ⟨by (with_reducible repeat (first | refine blk_drewN ?_ _ | refine blk_drew ?_ | refine blk_alloc ?_ _)); refine blk_put (cs := #[.int .i64 x375000_10, .int .i64 x375001_10, .int .i64 x375002_10, .int .i64 x375003_10, .string x357004_1]) ?_ 4 _ rfl; (with_reducible repeat (first | refine blk_drewN ?_ _ | refine blk_drew ?_ | refine blk_alloc ?_ _)); refine blk_put (cs := #[.int .i64 x375000_10, .int .i64 x375001_10, .int .i64 x375002_10, .int .i64 x357003_1, .string x357004_1]) ?_ 3 _ rfl; (with_reducible repeat (first | refine blk_drewN ?_ _ | refine blk_drew ?_ | refine blk_alloc ?_ _)); refine blk_put (cs := #[.int .i64 x375000_10, .int .i64 x375001_10, .int .i64 x357002_1, .int .i64 x357003_1, .string x357004_1]) ?_ 2 _ rfl; (with_reducible repeat (first | refine blk_drewN ?_ _ | refine blk_drew ?_ | refine blk_alloc ?_ _)); refine blk_put (cs := #[.int .i64 x375000_10, .int .i64 x357001_1, .int .i64 x357002_1, .int .i64 x357003_1, .string x357004_1]) ?_ 1 _ rfl; (with_reducible repeat (first | refine blk_drewN ?_ _ | refine blk_drew ?_ | refine blk_alloc ?_ _)); refine blk_put (cs := #[.int .i64 x357000_1, .int .i64 x357001_1, .int .i64 x357002_1, .int .i64 x357003_1, .string x357004_1]) ?_ 0 _ rfl; (with_reducible repeat (first | refine blk_drewN ?_ _ | refine blk_drew ?_ | refine blk_alloc ?_ _)); exact BK356.out⟩, ⟨bw⟩⟩
                  ·replace c88 := Bool.eq_false_iff.mpr c88
                   subst c88
                   have H1 : (carillonlaw10_AcceptorKeeps.l0 kj52 l0 t355 (wrap64 (x5_1 + 1)) x375000_10 x375001_10 x375002_10 x375003_10 x375004_10) = some r := by rw [if_neg (show ¬ (false = true) by decide)] at H; exact H
                   clear H
                   have H := H1
                   clear H1
                   have H' := Aside0.mk H
                   clear H
                   have hnb104 := NB374_356.out
                   have hnc104 := NB356_374.out
                   have hnb105 := NB374_367.out
                   have hnc105 := NB367_374.out
                   have hcz106_0 := bc5_0 BK374.out
                   have hcz106_1 := bc5_1 BK374.out
                   have hcz106_2 := bc5_2 BK374.out
                   have hcz106_3 := bc5_3 BK374.out
                   have hcz106_4 := bc5_4 BK374.out
                   have hfz106_0 := blk_frozen BK374.out 0
                   have hfz106_1 := blk_frozen BK374.out 1
                   have hfz106_2 := blk_frozen BK374.out 2
                   have hfz106_3 := blk_frozen BK374.out 3
                   have hfz106_4 := blk_frozen BK374.out 4
                   have hnb107 := NB356_367.out
                   have hnc107 := NB367_356.out
                   have hcz108_0 := bc5_0 BK356.out
                   have hcz108_1 := bc5_1 BK356.out
                   have hcz108_2 := bc5_2 BK356.out
                   have hcz108_3 := bc5_3 BK356.out
                   have hcz108_4 := bc5_4 BK356.out
                   have hfz108_0 := blk_frozen BK356.out 0
                   have hfz108_1 := blk_frozen BK356.out 1
                   have hfz108_2 := blk_frozen BK356.out 2
                   have hfz108_3 := blk_frozen BK356.out 3
                   have hfz108_4 := blk_frozen BK356.out 4
                   go_wp2
                   go_roundg kj52
                   case measure => have := HK1.out; have := HJ4.out; have := HJ10.out; have := HJ31.out; have := HJ52.out; omega
                   case rel => (try rw [← Nbq22.out]); exact ⟨(wrap64 (x5_1 + 1)), (x375000_10), (x375001_10), (x375002_10), (x375003_10), (x375004_10), (by first | rfl | (simp; done) | (simp [*]; done)), H', ⟨by have := HK1.out; have := HJ4.out; have := HJ10.out; have := HJ31.out; have := HJ52.out; omega⟩, ⟨by (with_reducible repeat (first | refine blk_drewN ?_ _ | refine blk_drew ?_ | refine blk_alloc ?_ _)); refine blk_put (cs := #[.int .i64 x375000_10, .int .i64 x375001_10, .int .i64 x375002_10, .int .i64 x375003_10, .string x357004_1]) ?_ 4 _ rfl; (with_reducible repeat (first | refine blk_drewN ?_ _ | refine blk_drew ?_ | refine blk_alloc ?_ _)); refine blk_put (cs := #[.int .i64 x375000_10, .int .i64 x375001_10, .int .i64 x375002_10, .int .i64 x357003_1, .string x357004_1]) ?_ 3 _ rfl; (with_reducible repeat (first | refine blk_drewN ?_ _ | refine blk_drew ?_ | refine blk_alloc ?_ _)); refine blk_put (cs := #[.int .i64 x375000_10, .int .i64 x375001_10, .int .i64 x357002_1, .int .i64 x357003_1, .string x357004_1]) ?_ 2 _ rfl; (with_reducible repeat (first | refine blk_drewN ?_ _ | refine blk_drew ?_ | refine blk_alloc ?_ _)); refine blk_put (cs := #[.int .i64 x375000_10, .int .i64 x357001_1, .int .i64 x357002_1, .int .i64 x357003_1, .string x357004_1]) ?_ 1 _ rfl; (with_reducible repeat (first | refine blk_drewN ?_ _ | refine blk_drew ?_ | refine blk_alloc ?_ _)); refine blk_put (cs := #[.int .i64 x357000_1, .int .i64 x357001_1, .int .i64 x357002_1, .int .i64 x357003_1, .string x357004_1]) ?_ 0 _ rfl; (with_reducible repeat (first | refine blk_drewN ?_ _ | refine blk_drew ?_ | refine blk_alloc ?_ _)); exact BK356.out⟩, ⟨bw⟩⟩
                 ·rw [if_neg c87] at H
                  have c87b0 : (x375004_10.toList == x357004_1.toList) = false := beq_eq_false_iff_ne.mpr c87
                  (try simp only [c87b0, Bool.not_true, Bool.not_false, Bool.false_or, Bool.true_or, Bool.true_and, Bool.false_and, Bool.true_beq, Bool.false_beq, beq_true, beq_false] at c41b0)
                  (try simp only [c87b0, Bool.not_true, Bool.not_false, Bool.false_or, Bool.true_or, Bool.true_and, Bool.false_and, Bool.true_beq, Bool.false_beq, beq_true, beq_false] at c41b0)
                  have c87b1 : (x375004_10.toList != x357004_1.toList) = true := bne_iff_ne.mpr c87
                  exact absurd ((Option.some.inj H).trans hr_.out) (by decide)
                ·rw [if_neg c86] at H
                 have c86b0 : (x375002_10 == x357002_1 && (x375003_10 == x357003_1)) = false := by simpa using c86
                 (try (have c86b1 : decide (x375002_10 = x357002_1 && (x375003_10 == x357003_1)) = false := by simpa using c86))
                 (try (have c86b2 : (x375002_10 == x357002_1 && (x375003_10 == x357003_1)) = false := by simpa using c86))
                 (try (have c86b3 : ¬ (x375002_10 = x357002_1 && (x375003_10 == x357003_1)) := by simpa using c86))
                 clear c86
                 by_cases c109 : x8_10 = true
                 ·subst c109
                  have H1 : (if ((rd_T39 l0 x5_1).f1) = true then (if (!(x375002_10 == ((rd_T39 l0 x5_1).f0.f0)) || (!(x375003_10 == ((rd_T39 l0 x5_1).f0.f1)))) = true then (some false) else (if x375004_10.toList = ((rd_T39 l0 x5_1).f2).toList then (carillonlaw10_AcceptorKeeps.l0 kj52 l0 t355 (wrap64 (x5_1 + 1)) x375000_10 x375001_10 x375002_10 x375003_10 x375004_10) else (some false))) else (carillonlaw10_AcceptorKeeps.l0 kj52 l0 t355 (wrap64 (x5_1 + 1)) x375000_10 x375001_10 x375002_10 x375003_10 x375004_10)) = some r := by rw [if_pos rfl] at H; exact H
                  clear H
                  have H := H1
                  clear H1
                  by_cases c110 : ((rd_T39 l0 x5_1).f1) = true
                  ·rw [if_pos c110] at H
                   have c110b0 : ((rd_T39 l0 x5_1).f1) = true := c110
                   clear c110
                   by_cases c111 : (!(x375002_10 == ((rd_T39 l0 x5_1).f0.f0)) || (!(x375003_10 == ((rd_T39 l0 x5_1).f0.f1)))) = true
                   ·rw [if_pos c111] at H
                    have c111b0 : (!(x375002_10 == ((rd_T39 l0 x5_1).f0.f0)) || (!(x375003_10 == ((rd_T39 l0 x5_1).f0.f1)))) = true := c111
                    clear c111
                    exact absurd ((Option.some.inj H).trans hr_.out) (by decide)
                   ·rw [if_neg c111] at H
                    have c111b0 : (!(x375002_10 == ((rd_T39 l0 x5_1).f0.f0)) || (!(x375003_10 == ((rd_T39 l0 x5_1).f0.f1)))) = false := by simpa using c111
                    clear c111
                    by_cases c112 : x375004_10.toList = ((rd_T39 l0 x5_1).f2).toList
                    ·rw [if_pos c112] at H
                     have c112b0 : (x375004_10.toList == ((rd_T39 l0 x5_1).f2).toList) = true := beq_iff_eq.mpr c112
                     have c112b1 : (x375004_10.toList != ((rd_T39 l0 x5_1).f2).toList) = false := bne_eq_false_iff_eq.mpr c112
                     clear c112
                     have H' := Aside0.mk H
                     clear H
                     have hnb113 := NB374_356.out
                     have hnc113 := NB356_374.out
                     have hnb114 := NB374_367.out
                     have hnc114 := NB367_374.out
                     have hcz115_0 := bc5_0 BK374.out
                     have hcz115_1 := bc5_1 BK374.out
                     have hcz115_2 := bc5_2 BK374.out
                     have hcz115_3 := bc5_3 BK374.out
                     have hcz115_4 := bc5_4 BK374.out
                     have hfz115_0 := blk_frozen BK374.out 0
                     have hfz115_1 := blk_frozen BK374.out 1
                     have hfz115_2 := blk_frozen BK374.out 2
                     have hfz115_3 := blk_frozen BK374.out 3
                     have hfz115_4 := blk_frozen BK374.out 4
                     have hnb116 := NB356_367.out
                     have hnc116 := NB367_356.out
                     have hcz117_0 := bc5_0 BK356.out
                     have hcz117_1 := bc5_1 BK356.out
                     have hcz117_2 := bc5_2 BK356.out
                     have hcz117_3 := bc5_3 BK356.out
                     have hcz117_4 := bc5_4 BK356.out
                     have hfz117_0 := blk_frozen BK356.out 0
                     have hfz117_1 := blk_frozen BK356.out 1
                     have hfz117_2 := blk_frozen BK356.out 2
                     have hfz117_3 := blk_frozen BK356.out 3
                     have hfz117_4 := blk_frozen BK356.out 4
                     have hcz118_0 := bc4_0 BK367.out
                     have hcz118_1 := bc4_1 BK367.out
                     have hcz118_2 := bc4_2 BK367.out
                     have hcz118_3 := bc4_3 BK367.out
                     have hfz118_0 := blk_frozen BK367.out 0
                     have hfz118_1 := blk_frozen BK367.out 1
                     have hfz118_2 := blk_frozen BK367.out 2
                     have hfz118_3 := blk_frozen BK367.out 3
                     go_wp2
                     go_roundg kj52
                     case measure => have := HK1.out; have := HJ4.out; have := HJ10.out; have := HJ31.out; have := HJ52.out; omega
                     case rel => (try rw [← Nbq22.out]); exact ⟨(wrap64 (x5_1 + 1)), (x375000_10), (x375001_10), (x375002_10), (x375003_10), (x375004_10), (by first | rfl | (simp; done) | (simp [*]; done)), H', ⟨by have := HK1.out; have := HJ4.out; have := HJ10.out; have := HJ31.out; have := HJ52.out; omega⟩, ⟨by (with_reducible repeat (first | refine blk_drewN ?_ _ | refine blk_drew ?_ | refine blk_alloc ?_ _)); refine blk_put (cs := #[.int .i64 x375000_10, .int .i64 x375001_10, .int .i64 x375002_10, .int .i64 x375003_10, .string x357004_1]) ?_ 4 _ rfl; (with_reducible repeat (first | refine blk_drewN ?_ _ | refine blk_drew ?_ | refine blk_alloc ?_ _)); refine blk_put (cs := #[.int .i64 x375000_10, .int .i64 x375001_10, .int .i64 x375002_10, .int .i64 x357003_1, .string x357004_1]) ?_ 3 _ rfl; (with_reducible repeat (first | refine blk_drewN ?_ _ | refine blk_drew ?_ | refine blk_alloc ?_ _)); refine blk_put (cs := #[.int .i64 x375000_10, .int .i64 x375001_10, .int .i64 x357002_1, .int .i64 x357003_1, .string x357004_1]) ?_ 2 _ rfl; (with_reducible repeat (first | refine blk_drewN ?_ _ | refine blk_drew ?_ | refine blk_alloc ?_ _)); refine blk_put (cs := #[.int .i64 x375000_10, .int .i64 x357001_1, .int .i64 x357002_1, .int .i64 x357003_1, .string x357004_1]) ?_ 1 _ rfl; (with_reducible repeat (first | refine blk_drewN ?_ _ | refine blk_drew ?_ | refine blk_alloc ?_ _)); refine blk_put (cs := #[.int .i64 x357000_1, .int .i64 x357001_1, .int .i64 x357002_1, .int .i64 x357003_1, .string x357004_1]) ?_ 0 _ rfl; (with_reducible repeat (first | refine blk_drewN ?_ _ | refine blk_drew ?_ | refine blk_alloc ?_ _)); exact BK356.out⟩, ⟨bw⟩⟩
                    ·rw [if_neg c112] at H
                     have c112b0 : (x375004_10.toList == ((rd_T39 l0 x5_1).f2).toList) = false := beq_eq_false_iff_ne.mpr c112
                     have c112b1 : (x375004_10.toList != ((rd_T39 l0 x5_1).f2).toList) = true := bne_iff_ne.mpr c112
                     exact absurd ((Option.some.inj H).trans hr_.out) (by decide)
                  ·rw [if_neg c110] at H
                   have c110b0 : ((rd_T39 l0 x5_1).f1) = false := by simpa using c110
                   clear c110
                   have H' := Aside0.mk H
                   clear H
                   have hnb119 := NB374_356.out
                   have hnc119 := NB356_374.out
                   have hnb120 := NB374_367.out
                   have hnc120 := NB367_374.out
                   have hcz121_0 := bc5_0 BK374.out
                   have hcz121_1 := bc5_1 BK374.out
                   have hcz121_2 := bc5_2 BK374.out
                   have hcz121_3 := bc5_3 BK374.out
                   have hcz121_4 := bc5_4 BK374.out
                   have hfz121_0 := blk_frozen BK374.out 0
                   have hfz121_1 := blk_frozen BK374.out 1
                   have hfz121_2 := blk_frozen BK374.out 2
                   have hfz121_3 := blk_frozen BK374.out 3
                   have hfz121_4 := blk_frozen BK374.out 4
                   have hnb122 := NB356_367.out
                   have hnc122 := NB367_356.out
                   have hcz123_0 := bc5_0 BK356.out
                   have hcz123_1 := bc5_1 BK356.out
                   have hcz123_2 := bc5_2 BK356.out
                   have hcz123_3 := bc5_3 BK356.out
                   have hcz123_4 := bc5_4 BK356.out
                   have hfz123_0 := blk_frozen BK356.out 0
                   have hfz123_1 := blk_frozen BK356.out 1
                   have hfz123_2 := blk_frozen BK356.out 2
                   have hfz123_3 := blk_frozen BK356.out 3
                   have hfz123_4 := blk_frozen BK356.out 4
                   have hcz124_0 := bc4_0 BK367.out
                   have hcz124_1 := bc4_1 BK367.out
                   have hcz124_2 := bc4_2 BK367.out
                   have hcz124_3 := bc4_3 BK367.out
                   have hfz124_0 := blk_frozen BK367.out 0
                   have hfz124_1 := blk_frozen BK367.out 1
                   have hfz124_2 := blk_frozen BK367.out 2
                   have hfz124_3 := blk_frozen BK367.out 3
                   go_wp2
                   go_roundg kj52
                   case measure => have := HK1.out; have := HJ4.out; have := HJ10.out; have := HJ31.out; have := HJ52.out; omega
                   case rel => (try rw [← Nbq22.out]); exact ⟨(wrap64 (x5_1 + 1)), (x375000_10), (x375001_10), (x375002_10), (x375003_10), (x375004_10), (by first | rfl | (simp; done) | (simp [*]; done)), H', ⟨by have := HK1.out; have := HJ4.out; have := HJ10.out; have := HJ31.out; have := HJ52.out; omega⟩, ⟨by (with_reducible repeat (first | refine blk_drewN ?_ _ | refine blk_drew ?_ | refine blk_alloc ?_ _)); refine blk_put (cs := #[.int .i64 x375000_10, .int .i64 x375001_10, .int .i64 x375002_10, .int .i64 x375003_10, .string x357004_1]) ?_ 4 _ rfl; (with_reducible repeat (first | refine blk_drewN ?_ _ | refine blk_drew ?_ | refine blk_alloc ?_ _)); refine blk_put (cs := #[.int .i64 x375000_10, .int .i64 x375001_10, .int .i64 x375002_10, .int .i64 x357003_1, .string x357004_1]) ?_ 3 _ rfl; (with_reducible repeat (first | refine blk_drewN ?_ _ | refine blk_drew ?_ | refine blk_alloc ?_ _)); refine blk_put (cs := #[.int .i64 x375000_10, .int .i64 x375001_10, .int .i64 x357002_1, .int .i64 x357003_1, .string x357004_1]) ?_ 2 _ rfl; (with_reducible repeat (first | refine blk_drewN ?_ _ | refine blk_drew ?_ | refine blk_alloc ?_ _)); refine blk_put (cs := #[.int .i64 x375000_10, .int .i64 x357001_1, .int .i64 x357002_1, .int .i64 x357003_1, .string x357004_1]) ?_ 1 _ rfl; (with_reducible repeat (first | refine blk_drewN ?_ _ | refine blk_drew ?_ | refine blk_alloc ?_ _)); refine blk_put (cs := #[.int .i64 x357000_1, .int .i64 x357001_1, .int .i64 x357002_1, .int .i64 x357003_1, .string x357004_1]) ?_ 0 _ rfl; (with_reducible repeat (first | refine blk_drewN ?_ _ | refine blk_drew ?_ | refine blk_alloc ?_ _)); exact BK356.out⟩, ⟨bw⟩⟩
                 ·replace c109 := Bool.eq_false_iff.mpr c109
                  subst c109
                  have H1 : (carillonlaw10_AcceptorKeeps.l0 kj52 l0 t355 (wrap64 (x5_1 + 1)) x375000_10 x375001_10 x375002_10 x375003_10 x375004_10) = some r := by rw [if_neg (show ¬ (false = true) by decide)] at H; exact H
                  clear H
                  have H := H1
                  clear H1
                  have H' := Aside0.mk H
                  clear H
                  have hnb125 := NB374_356.out
                  have hnc125 := NB356_374.out
                  have hnb126 := NB374_367.out
                  have hnc126 := NB367_374.out
                  have hcz127_0 := bc5_0 BK374.out
                  have hcz127_1 := bc5_1 BK374.out
                  have hcz127_2 := bc5_2 BK374.out
                  have hcz127_3 := bc5_3 BK374.out
                  have hcz127_4 := bc5_4 BK374.out
                  have hfz127_0 := blk_frozen BK374.out 0
                  have hfz127_1 := blk_frozen BK374.out 1
                  have hfz127_2 := blk_frozen BK374.out 2
                  have hfz127_3 := blk_frozen BK374.out 3
                  have hfz127_4 := blk_frozen BK374.out 4
                  have hnb128 := NB356_367.out
                  have hnc128 := NB367_356.out
                  have hcz129_0 := bc5_0 BK356.out
                  have hcz129_1 := bc5_1 BK356.out
                  have hcz129_2 := bc5_2 BK356.out
                  have hcz129_3 := bc5_3 BK356.out
                  have hcz129_4 := bc5_4 BK356.out
                  have hfz129_0 := blk_frozen BK356.out 0
                  have hfz129_1 := blk_frozen BK356.out 1
                  have hfz129_2 := blk_frozen BK356.out 2
                  have hfz129_3 := blk_frozen BK356.out 3
                  have hfz129_4 := blk_frozen BK356.out 4
                  go_wp2
                  go_roundg kj52
                  case measure => have := HK1.out; have := HJ4.out; have := HJ10.out; have := HJ31.out; have := HJ52.out; omega
                  case rel => (try rw [← Nbq22.out]); exact ⟨(wrap64 (x5_1 + 1)), (x375000_10), (x375001_10), (x375002_10), (x375003_10), (x375004_10), (by first | rfl | (simp; done) | (simp [*]; done)), H', ⟨by have := HK1.out; have := HJ4.out; have := HJ10.out; have := HJ31.out; have := HJ52.out; omega⟩, ⟨by (with_reducible repeat (first | refine blk_drewN ?_ _ | refine blk_drew ?_ | refine blk_alloc ?_ _)); refine blk_put (cs := #[.int .i64 x375000_10, .int .i64 x375001_10, .int .i64 x375002_10, .int .i64 x375003_10, .string x357004_1]) ?_ 4 _ rfl; (with_reducible repeat (first | refine blk_drewN ?_ _ | refine blk_drew ?_ | refine blk_alloc ?_ _)); refine blk_put (cs := #[.int .i64 x375000_10, .int .i64 x375001_10, .int .i64 x375002_10, .int .i64 x357003_1, .string x357004_1]) ?_ 3 _ rfl; (with_reducible repeat (first | refine blk_drewN ?_ _ | refine blk_drew ?_ | refine blk_alloc ?_ _)); refine blk_put (cs := #[.int .i64 x375000_10, .int .i64 x375001_10, .int .i64 x357002_1, .int .i64 x357003_1, .string x357004_1]) ?_ 2 _ rfl; (with_reducible repeat (first | refine blk_drewN ?_ _ | refine blk_drew ?_ | refine blk_alloc ?_ _)); refine blk_put (cs := #[.int .i64 x375000_10, .int .i64 x357001_1, .int .i64 x357002_1, .int .i64 x357003_1, .string x357004_1]) ?_ 1 _ rfl; (with_reducible repeat (first | refine blk_drewN ?_ _ | refine blk_drew ?_ | refine blk_alloc ?_ _)); refine blk_put (cs := #[.int .i64 x357000_1, .int .i64 x357001_1, .int .i64 x357002_1, .int .i64 x357003_1, .string x357004_1]) ?_ 0 _ rfl; (with_reducible repeat (first | refine blk_drewN ?_ _ | refine blk_drew ?_ | refine blk_alloc ?_ _)); exact BK356.out⟩, ⟨bw⟩⟩
       ·rw [if_neg c9] at H
        exact absurd H (by simp)
      ·rw [if_neg c8] at H
       exact absurd H (by simp)
     ·replace c7 := Bool.eq_false_iff.mpr c7
      subst c7
      have H1 : ((acceptor_Encode.f kj4 x357000_1 x357001_1 x357002_1 x357003_1 x357004_1).bind fun bt357 => ((acceptor_Decode.f kj4 bt357.1).bind fun bt359 => (if t355 = true then (if bt357.2 = 0 then (if bt359.2.2.2.2.2 = 0 then (some ((bt359.1 == x357000_1 && (bt359.2.1 == x357001_1)) && ((bt359.2.2.1 == x357002_1 && (bt359.2.2.2.1 == x357003_1)) && (bt359.2.2.2.2.1.toList == x357004_1.toList)))) else (some false)) else (some false)) else (some false)))) = some r := by rw [if_neg (show ¬ (false = true) by decide)] at H; exact H
      clear H
      have H := H1
      clear H1
      replace H := Option.bind_eq_some_iff.mp H
      obtain ⟨⟨t357, t358⟩, A1300, H⟩ := H
      replace H : ((acceptor_Decode.f kj4 t357).bind fun bt359 => (if t355 = true then (if t358 = 0 then (if bt359.2.2.2.2.2 = 0 then (some ((bt359.1 == x357000_1 && (bt359.2.1 == x357001_1)) && ((bt359.2.2.1 == x357002_1 && (bt359.2.2.2.1 == x357003_1)) && (bt359.2.2.2.2.1.toList == x357004_1.toList)))) else (some false)) else (some false)) else (some false))) = some r := H
      have A130 := Aside0.mk A1300
      clear A1300
      replace H := Option.bind_eq_some_iff.mp H
      obtain ⟨⟨t359, t360, t361, t362, t363, t364⟩, A1310, H⟩ := H
      replace H : (if t355 = true then (if t358 = 0 then (if t364 = 0 then (some ((t359 == x357000_1 && (t360 == x357001_1)) && ((t361 == x357002_1 && (t362 == x357003_1)) && (t363.toList == x357004_1.toList)))) else (some false)) else (some false)) else (some false)) = some r := H
      have A131 := Aside0.mk A1310
      clear A1310
      by_cases c132 : t355 = true
      ·subst c132
       have H1 : (if t358 = 0 then (if t364 = 0 then (some ((t359 == x357000_1 && (t360 == x357001_1)) && ((t361 == x357002_1 && (t362 == x357003_1)) && (t363.toList == x357004_1.toList)))) else (some false)) else (some false)) = some r := by rw [if_pos rfl] at H; exact H
       clear H
       have H := H1
       clear H1
       by_cases c133 : t358 = 0
       ·rw [if_pos c133] at H
        have c133b0 : (t358 == 0) = true := beq_iff_eq.mpr c133
        have c133b1 : (t358 != 0) = false := bne_eq_false_iff_eq.mpr c133
        clear c133
        by_cases c134 : t364 = 0
        ·rw [if_pos c134] at H
         have c134b0 : (t364 == 0) = true := beq_iff_eq.mpr c134
         have c134b1 : (t364 != 0) = false := bne_eq_false_iff_eq.mpr c134
         clear c134
         obtain rfl := Option.some.inj H
         have hcz135_0 := bc5_0 BK356.out
         have hcz135_1 := bc5_1 BK356.out
         have hcz135_2 := bc5_2 BK356.out
         have hcz135_3 := bc5_3 BK356.out
         have hcz135_4 := bc5_4 BK356.out
         have hfz135_0 := blk_frozen BK356.out 0
         have hfz135_1 := blk_frozen BK356.out 1
         have hfz135_2 := blk_frozen BK356.out 2
         have hfz135_3 := blk_frozen BK356.out 3
         have hfz135_4 := blk_frozen BK356.out 4
         go_wp2_with (first | ((with_reducible refine gate_callee (f := 7) rfl ?_); refine goesL_ (some 118) rfl rfl Tryd.func7 (by kernel_rfl) rfl #[.agg #[.int .i64 x357000_1, .int .i64 x357001_1, .int .i64 x357002_1, .int .i64 x357003_1, .string x357004_1]] rfl am ?_; (with_reducible refine (acceptor_Encode.calls kj4 x357000_1 x357001_1 x357002_1 x357003_1 x357004_1 t357 t358 _ tbk A130.out).mono ?_); rintro e w136 ⟨rfl, hb⟩; refine ⟨_, rfl, ?_⟩; have n0_ := Aside0.mk (nb BK356.out hb); have n1_ := Aside0.mk (below_step bw hb); clear BK356; clear HB; have BK356 := n0_; have HB := n1_; clear n0_ n1_; (try clear hb); (try clear hb2); (try clear hk); (try clear hi)) | ((with_reducible refine gate_callee (f := 9) rfl ?_); refine goesL_ (some 123) rfl rfl Tryd.func9 (by kernel_rfl) rfl #[.string t357] rfl am ?_; (with_reducible refine (acceptor_Decode.calls kj4 t357 t359 t360 t361 t362 t363 t364 _ tbk A131.out).mono ?_); rintro e w137 ⟨rfl, hb⟩; refine ⟨_, rfl, ?_⟩; have n0_ := Aside0.mk (nb BK356.out hb); have n1_ := Aside0.mk (below_step bw hb); clear BK356; clear HB; have BK356 := n0_; have HB := n1_; clear n0_ n1_; (try clear hb); (try clear hb2); (try clear hk); (try clear hi)) | ((with_reducible refine gate_dst (N := 11) rfl ?_); refine box_event ?hg (N := 11) ?hd (cs := #[.int .i64 0, .int .i64 0, .int .i64 0, .int .i64 0, .string (⟨#[]⟩ : ByteArray)]) (t := 25) ?hr ?_; (case hd => rfl); (case hg => rfl); (case hr => first | (go_simp; done) | (go_simp; rfl)); intro gb365 hg w138 hbox hb; have n0_ := Aside0.mk (nb BK356.out hb); have n1_ := Aside0.mk (below_step bw hb); have n2_ := Aside0.mk (hbox); have n3_ := Aside0.mk ((g1 hg bw : w.heap.size ≤ gb365)); have n4_ := Aside0.mk ((g1 hg bw : w.heap.size ≤ gb365)); have n5_ := Aside0.mk ((n1 hg BK356.out : gb356 ≠ gb365)); have n6_ := Aside0.mk ((n2 hg BK356.out : gb365 ≠ gb356)); clear BK356; clear HB; have BK356 := n0_; have HB := n1_; have BK365 := n2_; have GW365 := n3_; have GE365 := n4_; have NB356_365 := n5_; have NB365_356 := n6_; clear n0_ n1_ n2_ n3_ n4_ n5_ n6_; clear hb hbox hg; have hnb139 := NB365_356.out; have hnc139 := NB356_365.out; have hcz140_0 := bc5_0 BK365.out; have hcz140_1 := bc5_1 BK365.out; have hcz140_2 := bc5_2 BK365.out; have hcz140_3 := bc5_3 BK365.out; have hcz140_4 := bc5_4 BK365.out; have hfz140_0 := blk_frozen BK365.out 0; have hfz140_1 := blk_frozen BK365.out 1; have hfz140_2 := blk_frozen BK365.out 2; have hfz140_3 := blk_frozen BK365.out 3; have hfz140_4 := blk_frozen BK365.out 4; have hcz141_0 := bc5_0 BK356.out; have hcz141_1 := bc5_1 BK356.out; have hcz141_2 := bc5_2 BK356.out; have hcz141_3 := bc5_3 BK356.out; have hcz141_4 := bc5_4 BK356.out; have hfz141_0 := blk_frozen BK356.out 0; have hfz141_1 := blk_frozen BK356.out 1; have hfz141_2 := blk_frozen BK356.out 2; have hfz141_3 := blk_frozen BK356.out 3; have hfz141_4 := blk_frozen BK356.out 4))
         go_ret
         exact ⟨er, bw⟩
        ·rw [if_neg c134] at H
         have c134b0 : (t364 == 0) = false := beq_eq_false_iff_ne.mpr c134
         have c134b1 : (t364 != 0) = true := bne_iff_ne.mpr c134
         exact absurd ((Option.some.inj H).trans hr_.out) (by decide)
       ·rw [if_neg c133] at H
        have c133b0 : (t358 == 0) = false := beq_eq_false_iff_ne.mpr c133
        have c133b1 : (t358 != 0) = true := bne_iff_ne.mpr c133
        exact absurd ((Option.some.inj H).trans hr_.out) (by decide)
      ·replace c132 := Bool.eq_false_iff.mpr c132
       subst c132
       have H1 : (some false) = some r := by rw [if_neg (show ¬ (false = true) by decide)] at H; exact H
       clear H
       have H := H1
       clear H1
       exact absurd ((Option.some.inj H).trans hr_.out) (by decide)

end Go.Proofs.YtocgbfcjmgpleaaDoor.P
