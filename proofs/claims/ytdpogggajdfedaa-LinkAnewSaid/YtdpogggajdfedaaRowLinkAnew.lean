/- The law LinkAnew holds of all that comes in: the row, out of the pure statement and the printed walk. Printed by wip/genrow.py. -/
import Derived.Test.YtdpogggajdfedaaRows
import Derived.Test.YtdpogggajdfedaaPx45
import Derived.Test.YtdpogggajdfedaaKinds
import Derived.Test.YtdpogggajdfedaaPureLinkAnew
import Derived.WalkKit
import Derived.ProofKit
import Derived.OpenShut
import Derived.ShutString
import Derived.ChangeOld
import Derived.Below
import Derived.SizedLaws
import Derived.Deep.DeepHandedRow
import Derived.Lib.LaidTab
import Derived.Deep.Slices
namespace Go.Proofs.Ytdpogggajdfedaa.rowLinkAnew
open Go.ChangeShapes Go.WideShapes Go.ChangeAt Go.RowKit Go.Proofs.Ytdpogggajdfedaa.P Go.Proofs.Ytdpogggajdfedaa.Opens Go.Proofs.YtdpogggajdfedaaW.PrintWords
open Go.ChangeMaps (open_string shut_string)
set_option linter.unusedVariables false
set_option linter.unusedSimpArgs false
theorem own : ownKnob Try.prog.godebug = none := by kernel_rfl
theorem laidOut : laidOutB Try.prog = true := by kernel_rfl
noncomputable def world (os : Os) : World :=
  { World.holding Try.prog os ⟨#[], #[], []⟩ with heap := (World.holding Try.prog os ⟨#[], #[], []⟩).heap }
theorem laid_met (os : Os) : laidMet Try.prog Rows.linkAnewRow.laid ((world os).forCall (fun _ _ => 0) ⟨#[], #[.slice none 0 0, .slice none 0 0], []⟩).memory :=
  laidMet_of_run' 8 (by kernel_rfl) (by kernel_rfl)
theorem reads (os : Os) {H : Type} (enc : TypeId × Value → H) : ∃ places, DataW.whole enc Try.prog ((world os).forCall (fun _ _ => 0) ⟨#[], #[.slice none 0 0, .slice none 0 0], []⟩).memory Try.f5.params.toList Rows.linkAnewSpec.vars false (#[.slice none 0 0, .slice none 0 0] : Array Value).toList 8 = some ([.nil, .nil], [], places) :=
  ⟨[], by kernel_rfl⟩
set_option maxRecDepth 100000 in
set_option maxHeartbeats 2000000 in
theorem contract (H : Type) (enc : TypeId × Value → H) (W : World) (base : Nat) (args : Array Value) (ds gs : List (DataW H)) (before : List MemPlace)
    (hval : ∀ (j : Nat) t v, Try.f5.params[j]? = some t → args[j]? = some v → Value.okWide Try.prog W .any base t v)
    (hW : DataW.Whole enc Try.prog Try.f5.params.toList Rows.linkAnewSpec.vars false W args.toList ds gs before)
    (hsz0 : (DataW.weightsEach Try.prog (Try.f5.params.toList ++ Rows.linkAnewSpec.plain.varTypes Try.prog) (ds ++ gs)).all (· ≤ reachBytes) = true)
    : Calls Try.prog 5 args W fun e W' => ∃ v, e = .returned v ∧ Rows.linkAnewSpec.post enc Try.prog Try.f5 false true false false W args v W' := by
  have hsz : (DataW.weightsEach Try.prog (Try.f5.params.toList ++ Rows.linkAnewSpec.plain.varTypes Try.prog) (ds ++ gs)).all (· ≤ reachBytes) = true := hsz0
  have hW' := hW
  obtain ⟨p, q, hA0, hV, rfl, hfz, hnd⟩ := hW
  have hA : DataW.TrodAll enc Try.prog W 0 (fun _ => true) true Try.f5.params.toList args.toList ds p := hA0
  rw [Try.params5] at hA hval hsz
  obtain ⟨v0, vs0, d0, ds0, p0, q0, hargs, rfl, rfl, h0, r0⟩ := trodAll_cons hA
  obtain ⟨v1, vs1, d1, ds1, p1, q1, rfl, rfl, rfl, h1, r1⟩ := trodAll_cons r0
  obtain ⟨rfl, rfl, rfl⟩ := trodAll_nil r1
  obtain rfl : args = #[v0, v1] := by cases args; simp_all
  obtain ⟨rfl, rfl⟩ := trodVars_none hV
  have k0 := h0
  have lt0 : ∀ x ∈ p0, x.block < W.heap.size := by obtain ⟨m, hm⟩ := k0; exact DataW.trod_lt m _ _ _ hm
  obtain ⟨fu0, hf0⟩ := h0
  obtain ⟨x0, K0, f0, s0, b0⟩ := (show Opens Try.prog 22 (Kd.slice 28 k28) (fun l : List S28 => ∀ a ∈ l, wf28 a) (fun l : List S28 => l.length * 40 :: l.flatMap lens28) (fun l : List S28 => (l.map bulk28).sum + 1) from (opens_slice Try.underlying22 (by kernel_rfl) (by kernel_rfl) opens28)) H enc W 0 _ true fu0 _ _ hf0
  have z0 : ∀ n ∈ (fun l : List S28 => l.length * 40 :: l.flatMap lens28) x0, n ≤ 140737488351232 := fun n hn => s0 reachBytes (fun m hm => by have := List.all_eq_true.1 hsz _ (DataW.weights_mem_each (j := 0) (t := 22) rfl rfl m hm); simpa using this) n hn
  obtain ⟨a0, len0, cap0, rfl⟩ := okWide_slice Try.underlying22 (hval 0 22 v0 rfl rfl)
  obtain ⟨A0, c0, e0, hc0, hr0⟩ := K0
  obtain ⟨rfl, rfl, rfl⟩ : A0 = a0 ∧ len0 = x0.length ∧ c0 = cap0 := by have z := e0; simp only [Value.cells, List.cons.injEq, Array.mk.injEq, Value.slice.injEq, and_true] at z; exact ⟨z.1.symm, z.2.1, z.2.2.symm⟩
  have k1 := h1
  have lt1 : ∀ x ∈ p1, x.block < W.heap.size := by obtain ⟨m, hm⟩ := k1; exact DataW.trod_lt m _ _ _ hm
  obtain ⟨fu1, hf1⟩ := h1
  obtain ⟨x1, K1, f1, s1, b1⟩ := (show Opens Try.prog 22 (Kd.slice 28 k28) (fun l : List S28 => ∀ a ∈ l, wf28 a) (fun l : List S28 => l.length * 40 :: l.flatMap lens28) (fun l : List S28 => (l.map bulk28).sum + 1) from (opens_slice Try.underlying22 (by kernel_rfl) (by kernel_rfl) opens28)) H enc W 0 _ true fu1 _ _ hf1
  have z1 : ∀ n ∈ (fun l : List S28 => l.length * 40 :: l.flatMap lens28) x1, n ≤ 140737488351232 := fun n hn => s1 reachBytes (fun m hm => by have := List.all_eq_true.1 hsz _ (DataW.weights_mem_each (j := 1) (t := 22) rfl rfl m hm); simpa using this) n hn
  obtain ⟨a1, len1, cap1, rfl⟩ := okWide_slice Try.underlying22 (hval 1 22 v1 rfl rfl)
  obtain ⟨A1, c1, e1, hc1, hr1⟩ := K1
  obtain ⟨rfl, rfl, rfl⟩ : A1 = a1 ∧ len1 = x1.length ∧ c1 = cap1 := by have z := e1; simp only [Value.cells, List.cons.injEq, Array.mk.injEq, Value.slice.injEq, and_true] at z; exact ⟨z.1.symm, z.2.1, z.2.2.symm⟩
  clear hA0
  have h := LinkAnew x0 x1 f0 z0 f1 z1
  refine (carillonlaw09_LinkAnew.calls A0 c0 x0 A1 c1 x1 true W hr0 hc0 hr1 hc1 ⟨rfl⟩ h).mono ?_
  rintro e W' ⟨he, bel0⟩
  have bel : Below W.heap.size W W' := bel0
  subst he
  exact ⟨_, rfl, _, _, _, [], _, [], hW', trodAll_mk1 (shut_bool Try.underlying4 _), (trodAll_cons_mk (Below.trod laidOut (by kernel_rfl) (of_decide_eq_true (by kernel_rfl)) k0 bel lt0) (trodAll_cons_mk (Below.trod laidOut (by kernel_rfl) (of_decide_eq_true (by kernel_rfl)) k1 bel lt1) trodAll_mk0)), rfl, bel.frame _, fun h => by cases h⟩
set_option maxRecDepth 100000 in
theorem lifted (os : Os) (started : os.Started) (H : Type) (enc : TypeId × Value → H) (F : Stop.Interp) :
    ReturnsInHanded {} Try.checked os 5 .any ((OpenSpec.ofChange Rows.linkAnewSpec).preRow enc Try.prog Try.f5 Rows.linkAnewRow.domain false Rows.linkAnewRow.laid) (((OpenSpec.ofChange Rows.linkAnewSpec).at F).post enc Try.prog Try.f5 false true false false) := by
  obtain ⟨places, hx⟩ := reads os enc
  refine returnsInHanded_of_row (C := Try.checked) (s := (OpenSpec.ofChange Rows.linkAnewSpec)) own started (by kernel_rfl) Try.func5
    (witness_row_at (enc := enc) (C := Try.checked) false (world os) #[.slice none 0 0, .slice none 0 0] rfl (by kernel_rfl) (by kernel_rfl) (by kernel_rfl)
      (OpenSpec.preRow_of_cond 8 hx (by kernel_rfl) (fun k hk => by cases hk) (by kernel_rfl) (laid_met os))) ?_
  intro W base args ds gs before hval hW hdom hcond hsz hL _ _
  exact contract H enc W base args ds gs before hval hW hsz
theorem said : Rows.LinkAnewSaid :=
  OpenClaim.holds_of_cond 5 Try.f5 rfl rfl rfl rfl rfl rfl rfl ⟨rfl, rfl, rfl, rfl, rfl⟩ rfl rfl rfl rfl rfl (by kernel_rfl) Try.func5 (by kernel_rfl)
    (of_decide_eq_true (by kernel_rfl)) (by unfold Func.isWrapper; first | (rw [if_pos (by decide +kernel)]; kernel_rfl) | (rw [if_neg (by decide +kernel)]; exact ⟨rfl, rfl⟩))
    (fun os started H enc _ F => by rw [OpenClaim.pre_eq_preRow]; exact lifted os started H enc F)
end Go.Proofs.Ytdpogggajdfedaa.rowLinkAnew
namespace Go.Proofs.Ytdpogggajdfedaa
/-- The law's statement. -/
theorem linkAnew_holds : Rows.LinkAnewSaid := rowLinkAnew.said
#print axioms linkAnew_holds
end Go.Proofs.Ytdpogggajdfedaa
