-- Printed by this session's program wip/xp.py (a turned copy of the kit's printer): functions, their contracts.
import Derived.Test.YtkcooehlahifkaaDoorProg
import Derived.Below
import Derived.Deep.Draws
import Derived.Deep.AppendLies
import Derived.Maps.AppendAt
import Derived.OwnWalk
import Derived.Laws.BytesArg
import Derived.Laws.MakeOwn
import Derived.Laws.OwnMore
import Derived.Deep.OwnRows
import Derived.Tactics
import Derived.Lib.ConvBytes
import Derived.Laws.Slices
import Derived.WalkKit
import Derived.KernelRfl
import Derived.RowKit3
import Derived.Deep.LoopGhost
import Derived.Deep.QuietTactic
import Derived.BigQuiet
import Derived.WideLaws
import Derived.Deep.DeepCutAuto
import Derived.Deep.CutBlock
import Derived.Deep.RegionHeld3
import Derived.Laws.Rows
import Derived.Lib.AppendStr
import Derived.ArgAppend
import Derived.Laws.IdiomCopy
import Derived.OrdersHeld
import Derived.Laws.BitsLemmas
import Derived.RowKit
import Derived.Laws.BitsAllLaws
import Derived.WalkSpells
import Derived.ScopeJumps
import Derived.WalkMore
import Derived.Test.YtkcooehlahifkaaDoorWWords
import Derived.Test.YtkcooehlahifkaaDoorWLast
import Derived.Test.YtkcooehlahifkaaDoorWTab
import Derived.Test.YtkcooehlahifkaaDoorWFour
import Derived.Test.YtkcooehlahifkaaDoorWQPut
import Derived.Test.YtkcooehlahifkaaDoorWApart
import Derived.Test.YtkcooehlahifkaaDoorWArr
import Derived.Test.YtkcooehlahifkaaDoorWZeros
import Derived.Test.YtkcooehlahifkaaDoorWFoot
import Derived.Test.YtkcooehlahifkaaDoorWKept
import Derived.Test.YtkcooehlahifkaaDoorWShare
import Derived.Test.YtkcooehlahifkaaDoorWN
import Derived.Test.YtkcooehlahifkaaDoorWFootNe
import Derived.Test.YtkcooehlahifkaaDoorWAt
import Derived.Test.YtkcooehlahifkaaDoorWEqStruct
import Derived.Test.YtkcooehlahifkaaDoorWRepsOne
import Derived.Test.YtkcooehlahifkaaDoorWInv
import Derived.Test.YtkcooehlahifkaaDoorWInvWords
import Derived.Test.YtkcooehlahifkaaDoorWGuard
import Derived.Test.YtkcooehlahifkaaDoorWNEv
import Derived.Test.YtkcooehlahifkaaDoorWMore
namespace Go.Proofs.YtkcooehlahifkaaDoor.P
open Go.RowKit Go.Proofs.YtkcooehlahifkaaDoorW.PrintWords Go.Proofs.YtkcooehlahifkaaDoorW.PrintLast Go.Proofs.YtkcooehlahifkaaDoorW.PrintMore
attribute [local go_sem] max2_int min2_int max_two min_two max_three min_three max_four min_four   -- for this text's walks alone
set_option linter.unusedVariables false
set_option linter.unusedSimpArgs false



def errW : Option Int → Value
  | none => .nilIface
  | some c => .iface 0 (.int .i64 c)
theorem errW_none : errW none = .nilIface := rfl
theorem errW_some (c : Int) : errW (some c) = .iface 0 (.int .i64 c) := rfl

theorem info3 : (Tryd.prog.info? 3).map (fun i => (i.zero, i.size, i.bytes)) = some (some (.int .i64 0), 1, 8) := by kernel_rfl
theorem info5 : (Tryd.prog.info? 5).map (fun i => (i.zero, i.size, i.bytes)) = some (some (.int .u8 0), 1, 1) := by kernel_rfl
theorem info9 : (Tryd.prog.info? 9).map (fun i => (i.zero, i.size, i.bytes)) = some (some (.string ⟨#[]⟩), 1, 16) := by kernel_rfl
-- the values' own types
def rd_L2 (xs : List (List ByteArray)) (i : Int) : (List ByteArray) := xs.getD i.toNat ([] : List ByteArray)
theorem at_L2 {w : World} {A : Option Addr} {n : Nat} {xs : List (List ByteArray)} (h : Kd.C (Kd.slice 9 Kd.string) w A n xs) (i : Int) (h0 : 0 ≤ i) (h1 : i < n) : ∃ ad A0 c0, A = some ad ∧ w.cell? (ad.add i.toNat) = some (.slice A0 (rd_L2 xs i).length c0) ∧ (rd_L2 xs i).length ≤ c0 ∧ Kd.string.C w A0 (rd_L2 xs i).length (rd_L2 xs i) := by
  obtain ⟨ad, c, e, _, hK, hc0⟩ := Kd.C_get h ([] : List ByteArray) i h0 h1
  have hc : ∀ j u, c[j]? = some u → w.cell? (ad.add (i.toNat * 1 + j)) = some u := hc0
  obtain ⟨A0, c0, rfl, l0, g0⟩ := hK
  exact ⟨ad, A0, c0, e, by have hq := hc 0 _ rfl; rwa [Nat.mul_one, Nat.add_zero] at hq, l0, g0⟩

/-! Short words for what the printed proofs say again and again: a hypothesis that proves itself at the place where it is used. -/
theorem bw {p : Prop} (h : p := by repeat (first | (with_reducible first | exact HB.out | apply below_alloc | apply pw_below_drewN | apply below_drew1 | refine below_set ?_ (Aside0.out (by first | with_reducible assumption | assumption))) | exact HB.out)) : p := h
theorem bk {p q : Prop} (h : q) (k : q → p := by intro h_; (with_reducible repeat (first | refine blk_drewN ?_ _ | refine blk_drew ?_ | refine blk_alloc ?_ _)); exact h_) : p := k h
theorem nb {w w0 w' : World} {g : Nat} {o : Obj} (h : w0.heap[g]? = some o) (hb : Below w.heap.size w w') (k : w0.heap[g]? = some o → w.heap[g]? = some o := by intro h_; (with_reducible repeat (first | refine blk_drewN ?_ _ | refine blk_drew ?_ | refine blk_alloc ?_ _)); exact h_) : w'.heap[g]? = some o := blk_below (k h) hb
theorem n1 {w w0 : World} {g g' : Nat} {o : Obj} (hg : g' = w.heap.size) (h : w0.heap[g]? = some o) (k : w0.heap[g]? = some o → w.heap[g]? = some o := by intro h_; (with_reducible repeat (first | refine blk_drewN ?_ _ | refine blk_drew ?_ | refine blk_alloc ?_ _)); exact h_) : g ≠ g' := by rw [hg]; exact Nat.ne_of_lt (blk_lt (k h))
theorem n2 {w w0 : World} {g g' : Nat} {o : Obj} (hg : g' = w.heap.size) (h : w0.heap[g]? = some o) (k : w0.heap[g]? = some o → w.heap[g]? = some o := by intro h_; (with_reducible repeat (first | refine blk_drewN ?_ _ | refine blk_drew ?_ | refine blk_alloc ?_ _)); exact h_) : g' ≠ g := by rw [hg]; exact Nat.ne_of_gt (blk_lt (k h))
theorem g1 {w w' : World} {g : Nat} (hg : g = w'.heap.size) (hb : Below w.heap.size w w') : w.heap.size ≤ g := by rw [hg]; exact below_size hb
theorem er {p : Prop} (h : p := by first | rfl | (simp [errW_none, errW_some] <;> rfl) | (simp [*, errW_none, errW_some] <;> rfl)) : p := h
theorem am {p : Prop} (h : p := by (try simp only [List.map_toArray, List.map_cons, List.map_nil]); first | done | rfl | (simp only [List.length_drop, List.length_take]; rfl)) : p := h
theorem bc1_0 {w : World} {g t : Nat} {x0 : Value} (h : w.heap[g]? = some (.cells #[x0] t (0, 0))) : w.cell? ⟨g, 0, none⟩ = some x0 := (blk_cell h 0).trans rfl
theorem bc2_0 {w : World} {g t : Nat} {x0 x1 : Value} (h : w.heap[g]? = some (.cells #[x0, x1] t (0, 0))) : w.cell? ⟨g, 0, none⟩ = some x0 := (blk_cell h 0).trans rfl
theorem bc2_1 {w : World} {g t : Nat} {x0 x1 : Value} (h : w.heap[g]? = some (.cells #[x0, x1] t (0, 0))) : w.cell? ⟨g, 1, none⟩ = some x1 := (blk_cell h 1).trans rfl
theorem bc3_0 {w : World} {g t : Nat} {x0 x1 x2 : Value} (h : w.heap[g]? = some (.cells #[x0, x1, x2] t (0, 0))) : w.cell? ⟨g, 0, none⟩ = some x0 := (blk_cell h 0).trans rfl
theorem bc3_1 {w : World} {g t : Nat} {x0 x1 x2 : Value} (h : w.heap[g]? = some (.cells #[x0, x1, x2] t (0, 0))) : w.cell? ⟨g, 1, none⟩ = some x1 := (blk_cell h 1).trans rfl
theorem bc3_2 {w : World} {g t : Nat} {x0 x1 x2 : Value} (h : w.heap[g]? = some (.cells #[x0, x1, x2] t (0, 0))) : w.cell? ⟨g, 2, none⟩ = some x2 := (blk_cell h 2).trans rfl
theorem bc4_0 {w : World} {g t : Nat} {x0 x1 x2 x3 : Value} (h : w.heap[g]? = some (.cells #[x0, x1, x2, x3] t (0, 0))) : w.cell? ⟨g, 0, none⟩ = some x0 := (blk_cell h 0).trans rfl
theorem bc4_1 {w : World} {g t : Nat} {x0 x1 x2 x3 : Value} (h : w.heap[g]? = some (.cells #[x0, x1, x2, x3] t (0, 0))) : w.cell? ⟨g, 1, none⟩ = some x1 := (blk_cell h 1).trans rfl
theorem bc4_2 {w : World} {g t : Nat} {x0 x1 x2 x3 : Value} (h : w.heap[g]? = some (.cells #[x0, x1, x2, x3] t (0, 0))) : w.cell? ⟨g, 2, none⟩ = some x2 := (blk_cell h 2).trans rfl
theorem bc4_3 {w : World} {g t : Nat} {x0 x1 x2 x3 : Value} (h : w.heap[g]? = some (.cells #[x0, x1, x2, x3] t (0, 0))) : w.cell? ⟨g, 3, none⟩ = some x3 := (blk_cell h 3).trans rfl
theorem bc5_0 {w : World} {g t : Nat} {x0 x1 x2 x3 x4 : Value} (h : w.heap[g]? = some (.cells #[x0, x1, x2, x3, x4] t (0, 0))) : w.cell? ⟨g, 0, none⟩ = some x0 := (blk_cell h 0).trans rfl
theorem bc5_1 {w : World} {g t : Nat} {x0 x1 x2 x3 x4 : Value} (h : w.heap[g]? = some (.cells #[x0, x1, x2, x3, x4] t (0, 0))) : w.cell? ⟨g, 1, none⟩ = some x1 := (blk_cell h 1).trans rfl
theorem bc5_2 {w : World} {g t : Nat} {x0 x1 x2 x3 x4 : Value} (h : w.heap[g]? = some (.cells #[x0, x1, x2, x3, x4] t (0, 0))) : w.cell? ⟨g, 2, none⟩ = some x2 := (blk_cell h 2).trans rfl
theorem bc5_3 {w : World} {g t : Nat} {x0 x1 x2 x3 x4 : Value} (h : w.heap[g]? = some (.cells #[x0, x1, x2, x3, x4] t (0, 0))) : w.cell? ⟨g, 3, none⟩ = some x3 := (blk_cell h 3).trans rfl
theorem bc5_4 {w : World} {g t : Nat} {x0 x1 x2 x3 x4 : Value} (h : w.heap[g]? = some (.cells #[x0, x1, x2, x3, x4] t (0, 0))) : w.cell? ⟨g, 4, none⟩ = some x4 := (blk_cell h 4).trans rfl
theorem bc6_0 {w : World} {g t : Nat} {x0 x1 x2 x3 x4 x5 : Value} (h : w.heap[g]? = some (.cells #[x0, x1, x2, x3, x4, x5] t (0, 0))) : w.cell? ⟨g, 0, none⟩ = some x0 := (blk_cell h 0).trans rfl
theorem bc6_1 {w : World} {g t : Nat} {x0 x1 x2 x3 x4 x5 : Value} (h : w.heap[g]? = some (.cells #[x0, x1, x2, x3, x4, x5] t (0, 0))) : w.cell? ⟨g, 1, none⟩ = some x1 := (blk_cell h 1).trans rfl
theorem bc6_2 {w : World} {g t : Nat} {x0 x1 x2 x3 x4 x5 : Value} (h : w.heap[g]? = some (.cells #[x0, x1, x2, x3, x4, x5] t (0, 0))) : w.cell? ⟨g, 2, none⟩ = some x2 := (blk_cell h 2).trans rfl
theorem bc6_3 {w : World} {g t : Nat} {x0 x1 x2 x3 x4 x5 : Value} (h : w.heap[g]? = some (.cells #[x0, x1, x2, x3, x4, x5] t (0, 0))) : w.cell? ⟨g, 3, none⟩ = some x3 := (blk_cell h 3).trans rfl
theorem bc6_4 {w : World} {g t : Nat} {x0 x1 x2 x3 x4 x5 : Value} (h : w.heap[g]? = some (.cells #[x0, x1, x2, x3, x4, x5] t (0, 0))) : w.cell? ⟨g, 4, none⟩ = some x4 := (blk_cell h 4).trans rfl
theorem bc6_5 {w : World} {g t : Nat} {x0 x1 x2 x3 x4 x5 : Value} (h : w.heap[g]? = some (.cells #[x0, x1, x2, x3, x4, x5] t (0, 0))) : w.cell? ⟨g, 5, none⟩ = some x5 := (blk_cell h 5).trans rfl
theorem bc7_0 {w : World} {g t : Nat} {x0 x1 x2 x3 x4 x5 x6 : Value} (h : w.heap[g]? = some (.cells #[x0, x1, x2, x3, x4, x5, x6] t (0, 0))) : w.cell? ⟨g, 0, none⟩ = some x0 := (blk_cell h 0).trans rfl
theorem bc7_1 {w : World} {g t : Nat} {x0 x1 x2 x3 x4 x5 x6 : Value} (h : w.heap[g]? = some (.cells #[x0, x1, x2, x3, x4, x5, x6] t (0, 0))) : w.cell? ⟨g, 1, none⟩ = some x1 := (blk_cell h 1).trans rfl
theorem bc7_2 {w : World} {g t : Nat} {x0 x1 x2 x3 x4 x5 x6 : Value} (h : w.heap[g]? = some (.cells #[x0, x1, x2, x3, x4, x5, x6] t (0, 0))) : w.cell? ⟨g, 2, none⟩ = some x2 := (blk_cell h 2).trans rfl
theorem bc7_3 {w : World} {g t : Nat} {x0 x1 x2 x3 x4 x5 x6 : Value} (h : w.heap[g]? = some (.cells #[x0, x1, x2, x3, x4, x5, x6] t (0, 0))) : w.cell? ⟨g, 3, none⟩ = some x3 := (blk_cell h 3).trans rfl
theorem bc7_4 {w : World} {g t : Nat} {x0 x1 x2 x3 x4 x5 x6 : Value} (h : w.heap[g]? = some (.cells #[x0, x1, x2, x3, x4, x5, x6] t (0, 0))) : w.cell? ⟨g, 4, none⟩ = some x4 := (blk_cell h 4).trans rfl
theorem bc7_5 {w : World} {g t : Nat} {x0 x1 x2 x3 x4 x5 x6 : Value} (h : w.heap[g]? = some (.cells #[x0, x1, x2, x3, x4, x5, x6] t (0, 0))) : w.cell? ⟨g, 5, none⟩ = some x5 := (blk_cell h 5).trans rfl
theorem bc7_6 {w : World} {g t : Nat} {x0 x1 x2 x3 x4 x5 x6 : Value} (h : w.heap[g]? = some (.cells #[x0, x1, x2, x3, x4, x5, x6] t (0, 0))) : w.cell? ⟨g, 6, none⟩ = some x6 := (blk_cell h 6).trans rfl
theorem bc8_0 {w : World} {g t : Nat} {x0 x1 x2 x3 x4 x5 x6 x7 : Value} (h : w.heap[g]? = some (.cells #[x0, x1, x2, x3, x4, x5, x6, x7] t (0, 0))) : w.cell? ⟨g, 0, none⟩ = some x0 := (blk_cell h 0).trans rfl
theorem bc8_1 {w : World} {g t : Nat} {x0 x1 x2 x3 x4 x5 x6 x7 : Value} (h : w.heap[g]? = some (.cells #[x0, x1, x2, x3, x4, x5, x6, x7] t (0, 0))) : w.cell? ⟨g, 1, none⟩ = some x1 := (blk_cell h 1).trans rfl
theorem bc8_2 {w : World} {g t : Nat} {x0 x1 x2 x3 x4 x5 x6 x7 : Value} (h : w.heap[g]? = some (.cells #[x0, x1, x2, x3, x4, x5, x6, x7] t (0, 0))) : w.cell? ⟨g, 2, none⟩ = some x2 := (blk_cell h 2).trans rfl
theorem bc8_3 {w : World} {g t : Nat} {x0 x1 x2 x3 x4 x5 x6 x7 : Value} (h : w.heap[g]? = some (.cells #[x0, x1, x2, x3, x4, x5, x6, x7] t (0, 0))) : w.cell? ⟨g, 3, none⟩ = some x3 := (blk_cell h 3).trans rfl
theorem bc8_4 {w : World} {g t : Nat} {x0 x1 x2 x3 x4 x5 x6 x7 : Value} (h : w.heap[g]? = some (.cells #[x0, x1, x2, x3, x4, x5, x6, x7] t (0, 0))) : w.cell? ⟨g, 4, none⟩ = some x4 := (blk_cell h 4).trans rfl
theorem bc8_5 {w : World} {g t : Nat} {x0 x1 x2 x3 x4 x5 x6 x7 : Value} (h : w.heap[g]? = some (.cells #[x0, x1, x2, x3, x4, x5, x6, x7] t (0, 0))) : w.cell? ⟨g, 5, none⟩ = some x5 := (blk_cell h 5).trans rfl
theorem bc8_6 {w : World} {g t : Nat} {x0 x1 x2 x3 x4 x5 x6 x7 : Value} (h : w.heap[g]? = some (.cells #[x0, x1, x2, x3, x4, x5, x6, x7] t (0, 0))) : w.cell? ⟨g, 6, none⟩ = some x6 := (blk_cell h 6).trans rfl
theorem bc8_7 {w : World} {g t : Nat} {x0 x1 x2 x3 x4 x5 x6 x7 : Value} (h : w.heap[g]? = some (.cells #[x0, x1, x2, x3, x4, x5, x6, x7] t (0, 0))) : w.cell? ⟨g, 7, none⟩ = some x7 := (blk_cell h 7).trans rfl
/-- A scope in which the run jumps back to one label: what holds at the label ('J', with a number of rounds that every jump lowers). -/
theorem wp_scope_lab {P : Program} {a : Act} {w : World} {Q : Exit → Act → World → Prop} {c X : Code} (l : Nat) (J : Nat → Act → World → Prop) (hf : findLabel c l = some (.seq .skip X))
    (pass : ∀ n a w, J n a w → X.wp P (Exit.jump l (fun a' w' => ∃ m, m < n ∧ J m a' w') Q) a w)
    (first : (∀ n a w, J n a w → X.wp P (Exit.jump l (fun a' w' => ∃ m, J m a' w') Q) a w) → c.wp P (Exit.jump l (fun a' w' => ∃ m, J m a' w') Q) a w) : (Code.scope c).wp P Q a w := by
  have hx : ∀ n a w, J n a w → X.wp P (Exit.jump l (fun a' w' => ∃ m, J m a' w') Q) a w := fun n a w hJ => wp_mono (pass n a w hJ) (fun e a' w' h => by
    cases e with
    | goto l' => exact ⟨h.1, h.2.choose, h.2.choose_spec.2⟩
    | normal => exact h
    | exit id => exact h
    | ret => exact h
    | panic ch => exact h
    | outgrown => exact h)
  intro b k cs
  have hg : gotoIn l (.inScope c :: k) = some (.code (.seq .skip X) :: .inScope c :: k) := by simp [gotoIn, hf]
  have key : ∀ n a w, J n a w → ∃ e a' w', Q e a' w' ∧ Arrives P (lone (b.at a (.code (.seq .skip X) :: .inScope c :: k)) cs w) b k cs e a' w' := by
    intro n
    induction n using Nat.strongRecOn with
    | _ n ih =>
      intro a w hJ
      obtain ⟨e, a₁, w₁, hq, harr⟩ := (wp_seq (wp_skip (pass n a w hJ)) : (Code.seq .skip X).wp P (Exit.jump l (fun a' w' => ∃ m, m < n ∧ J m a' w') Q) a w) b (.inScope c :: k) cs
      cases e with
      | normal => exact ⟨.normal, a₁, w₁, hq, Steps.trans harr (.one step_inScope)⟩
      | exit id => exact ⟨.exit id, a₁, w₁, hq, fun k' hk => harr k' (by simp [exitTo, hk])⟩
      | goto l' =>
        obtain ⟨rfl, m, hm, hJ'⟩ := hq
        obtain ⟨e₂, a₂, w₂, hq₂, harr₂⟩ := ih m hm a₁ w₁ hJ'
        exact ⟨e₂, a₂, w₂, hq₂, .of_steps (harr _ hg) harr₂⟩
      | ret => exact ⟨_, a₁, w₁, hq, harr⟩
      | panic ch => exact ⟨_, a₁, w₁, hq, harr⟩
      | outgrown => exact ⟨_, a₁, w₁, hq, harr⟩
  obtain ⟨e, a₁, w₁, hq, harr⟩ := first hx b (.inScope c :: k) cs
  cases e with
  | normal => exact ⟨.normal, a₁, w₁, hq, .head step_scope (Steps.trans harr (.one step_inScope))⟩
  | exit id => exact ⟨.exit id, a₁, w₁, hq, fun k' hk => .head step_scope (harr k' (by simp [exitTo, hk]))⟩
  | goto l' =>
    obtain ⟨rfl, m, hJ'⟩ := hq
    obtain ⟨e₂, a₂, w₂, hq₂, harr₂⟩ := key m a₁ w₁ hJ'
    exact ⟨e₂, a₂, w₂, hq₂, .of_steps (.head step_scope (harr _ hg)) harr₂⟩
  | ret => exact ⟨_, a₁, w₁, hq, .of_steps (.one step_scope) harr⟩
  | panic ch => exact ⟨_, a₁, w₁, hq, .of_steps (.one step_scope) harr⟩
  | outgrown => exact ⟨_, a₁, w₁, hq, .of_steps (.one step_scope) harr⟩
/-! The laid tables, as the walks read them. -/
def crcTabI : List Int := [0, 274646895, 549293790, 820201905, 1098587580, 1361435347, 1640403810, 1905808397, 2197175160, 2460548119, 2722870694, 2987750089, 3280807620, 3553878443, 3811616794, 4084100981]
def crcTabN : List Nat := [0, 274646895, 549293790, 820201905, 1098587580, 1361435347, 1640403810, 1905808397, 2197175160, 2460548119, 2722870694, 2987750089, 3280807620, 3553878443, 3811616794, 4084100981]
structure TabOk (w : World) : Prop where
  crc0 : ∀ i, i < 16 → w.cell? ⟨0, i, none⟩ = some (.int .u32 (crcTabI.getD i 0))
theorem TabOk.below {w w' : World} (h : TabOk w) (hb : Below w.heap.size w w') : TabOk w' := ⟨fun i hi => pw_cell_below hb (h.crc0 i hi)⟩
theorem TabOk.alloc {w : World} (h : TabOk w) (o : Obj) : TabOk (w.alloc o) := h.below (below_alloc (Below.refl _ _) o)
theorem TabOk.drewN {w : World} (h : TabOk w) (n : Nat) : TabOk (w.drewN n) := h.below (pw_below_drewN (Below.refl _ _) n)
theorem TabOk.drew {w : World} (h : TabOk w) : TabOk w.drew := h.below (below_drew (Below.refl _ _))
theorem TabOk.crc {w : World} (h : TabOk w) (i : Nat) (hi : i < 16) : w.cell? ⟨0, i, none⟩ = some (.int .u32 ((crcTabN.getD i 0 : Nat) : Int)) := by
  rw [h.crc0 i hi]
  have : ∀ j : Fin 16, crcTabI.getD j.val 0 = ((crcTabN.getD j.val 0 : Nat) : Int) := by decide
  rw [this ⟨i, hi⟩]
theorem tbk {p : Prop} (h : p := by first | exact HT.out | ((with_reducible repeat (first | exact HT.out | apply TabOk.alloc | apply TabOk.drewN | apply TabOk.drew)); done) | (refine TabOk.below HT.out ?_; repeat (first | (with_reducible first | exact HB.out | apply below_alloc | apply pw_below_drewN | apply below_drew1 | refine below_set ?_ (Aside0.out (by first | with_reducible assumption | assumption))) | exact HB.out | exact Below.refl _ _))) : p := h

end Go.Proofs.YtkcooehlahifkaaDoor.P
