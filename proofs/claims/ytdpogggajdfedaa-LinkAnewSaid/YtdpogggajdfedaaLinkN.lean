import Derived.Test.YtdpogggajdfedaaLinkM
import Derived.Outline
import Derived.Laws.BitsAllLaws
import Derived.WalkSpells
import Derived.StillTailTactics
namespace Go.Proofs.Ytdpogggajdfedaa.P
open Go.RowKit Go.Proofs.YtdpogggajdfedaaW.PrintWords Go.Proofs.YtdpogggajdfedaaW.PrintLast Go.Proofs.YtdpogggajdfedaaW.PrintMore
attribute [local go_sem] max2_int min2_int max_two min_two max_three min_three max_four min_four
set_option linter.unusedVariables false
set_option linter.unusedSimpArgs false
theorem all_rdT {l : List TurnT} (h : (l.all fun x => inB x.f0 && inB x.f1 && inB x.f2) = true) (i : Nat) (hi : i < l.length) : inB (rd_T28 l (i : Int)).f0 = true ∧ inB (rd_T28 l (i : Int)).f1 = true ∧ inB (rd_T28 l (i : Int)).f2 = true := by
  have h2 := List.all_eq_true.1 h (rd_T28 l (i : Int)) (by unfold rd_T28; rw [show ((i : Int)).toNat = i from rfl, List.getD_eq_getElem?_getD, List.getElem?_eq_getElem hi]; exact List.getElem_mem hi)
  simp only [Bool.and_eq_true] at h2
  exact ⟨h2.1.1, h2.1.2, h2.2⟩
/-- Behind a turn. -/
def TurnEnd (w : World) (n gx : Nat) (y : PaM) (e : Ending) (W' : World) : Prop := e = .returned (.bool true) ∧ ∃ B', B'.gx = gx ∧ Aside0 (PairIs w W' B' y) ∧ Aside0 (InvP (n + 1) y)
theorem turn_next {w W : World} {B : PB} {x : PaM} {n gx : Nat} (t : TurnT) (hi : inB t.f0 = true ∧ inB t.f1 = true ∧ inB t.f2 = true) (hg : B.gx = gx) (H : PairIs w W B x) (hI : InvP n x) (hn : n ≤ 10000) :
    Calls Try.prog 11 #[.pointer (some ⟨gx, 0, none⟩), .agg #[.int .i64 t.f0, .int .i64 t.f1, .int .i64 t.f2, .string t.f3]] W (TurnEnd w n gx (x.turn t)) := by
  have h := turn_calls w W B x t hi.1 hi.2.1 hi.2.2 H (hI.pa_ok (by omega)) (hI.fine t)
  rw [hg] at h
  refine h.mono ?_
  rintro e W' ⟨rfl, B', hB, hP, hK⟩
  exact ⟨rfl, B', hB.1.trans hg, ⟨hP⟩, ⟨hI.turn t⟩⟩
/-- So, and turns' blocks stay. -/
def TurnEndK (w W : World) (n gx : Nat) (y : PaM) (e : Ending) (W' : World) : Prop := e = .returned (.bool true) ∧ ∃ B', B'.gx = gx ∧ Aside0 (PairIs w W' B' y) ∧ Aside0 (InvP (n + 1) y) ∧ Aside0 (KeepT W W')
theorem turn_nextK {w W : World} {B : PB} {x : PaM} {n gx : Nat} (t : TurnT) (hi : inB t.f0 = true ∧ inB t.f1 = true ∧ inB t.f2 = true) (hg : B.gx = gx) (H : PairIs w W B x) (hI : InvP n x) (hn : n ≤ 10000) :
    Calls Try.prog 11 #[.pointer (some ⟨gx, 0, none⟩), .agg #[.int .i64 t.f0, .int .i64 t.f1, .int .i64 t.f2, .string t.f3]] W (TurnEndK w W n gx (x.turn t)) := by
  have h := turn_calls w W B x t hi.1 hi.2.1 hi.2.2 H (hI.pa_ok (by omega)) (hI.fine t)
  rw [hg] at h
  refine h.mono ?_
  rintro e W' ⟨rfl, B', hB, hP, hK⟩
  exact ⟨rfl, B', hB.1.trans hg, ⟨hP⟩, ⟨hI.turn t⟩, ⟨hK⟩⟩
theorem PairIs.base {w W0 W : World} {B : PB} {x : PaM} (h : PairIs W0 W B x) (hb : Below w.heap.size w W0) : PairIs w W B x := by
  have h0 := hb.size
  have hl := fun (i : Nat) (hi : i < 2) => h.lk i hi
  refine ⟨h.X, h.L, h.Y, h.S, h.T, ⟨⟨h.two.A.X, Kd.R_lower h.two.A.R h0, Nat.le_trans h0 h.two.A.ge⟩, ⟨h.two.B.X, Kd.R_lower h.two.B.R h0, Nat.le_trans h0 h.two.B.ge⟩, below_step hb h.two.Bl, h.two.ne, h.two.dj⟩, fun i hi => Kd.R_lower (h.y i hi) h0, fun i hi => Kd.R_lower (h.s i hi) h0, fun i hi => Kd.R_lower (h.t i hi) h0, h.oy, h.os, h.ot, h.nst, ?_⟩
  obtain ⟨b1, b2, b3, b4, b5⟩ := h.big
  exact ⟨by omega, by omega, by omega, by omega, by omega⟩

end Go.Proofs.Ytdpogggajdfedaa.P
