import Derived.Test.YtdpogggajdfedaaLinkA
import Derived.Test.YtdpogggajdfedaaPx4
import Derived.Outline
import Derived.Laws.BitsAllLaws
import Derived.WalkSpells
import Derived.StillTailTactics
namespace Go.Proofs.Ytdpogggajdfedaa.P
open Go.RowKit Go.Proofs.YtdpogggajdfedaaW.PrintWords Go.Proofs.YtdpogggajdfedaaW.PrintLast Go.Proofs.YtdpogggajdfedaaW.PrintMore
attribute [local go_sem] max2_int min2_int max_two min_two max_three min_three max_four min_four
set_option linter.unusedVariables false
set_option linter.unusedSimpArgs false
theorem right_is (f : FrT) (h0 : -9223372036854775808 ≤ f.f0) : link_right.f f.f0 f.f1 f.f2 f.f3 f.f4 = some (decide (RightF f)) := by
  obtain ⟨f0, f1, f2, f3, f4⟩ := f
  unfold link_right.f
  dsimp only at h0 ⊢
  have no : ∀ h : ¬ RightF ⟨f0, f1, f2, f3, f4⟩, some false = some (decide (RightF ⟨f0, f1, f2, f3, f4⟩)) := fun h => by rw [decide_eq_false h]
  by_cases c0 : f0 < 1
  · have hw : wrap64 (f0 - 1) < 0 ∨ wrap64 (f0 - 1) > 9007199254740991 := by
      by_cases e : f0 = -9223372036854775808
      · right; rw [e]; unfold wrap64; omega
      · left; unfold wrap64; omega
    have hn := no (fun h => by unfold RightF at h; dsimp only at h; omega)
    rcases hw with hw | hw
    · rw [if_pos hw]; exact hn
    · rw [if_neg (by omega), if_pos hw]; exact hn
  by_cases c1 : 9007199254740991 < f0
  · have hn := no (fun h => by unfold RightF at h; dsimp only at h; omega)
    by_cases a1 : wrap64 (f0 - 1) < 0
    · rw [if_pos a1]; exact hn
    rw [if_neg a1]
    by_cases a2 : wrap64 (f0 - 1) > 9007199254740991
    · rw [if_pos a2]; exact hn
    rw [if_neg a2]
    repeat' split
    all_goals first | exact hn | (exfalso; omega)
  rw [show wrap64 (f0 - 1) = f0 - 1 by unfold wrap64; omega, if_neg (by omega), if_neg (by omega)]
  by_cases c2 : f1 < 0
  · rw [if_pos c2]; exact no (fun h => by unfold RightF at h; dsimp only at h; omega)
  rw [if_neg c2]
  by_cases c3 : f1 > 9007199254740991
  · rw [if_pos c3]; exact no (fun h => by unfold RightF at h; dsimp only at h; omega)
  rw [if_neg c3]
  by_cases c4 : f2 < 0
  · rw [if_pos c4]; exact no (fun h => by unfold RightF at h; dsimp only at h; omega)
  rw [if_neg c4]
  by_cases c5 : f2 > 9007199254740991
  · rw [if_pos c5]; exact no (fun h => by unfold RightF at h; dsimp only at h; omega)
  rw [if_neg c5]
  by_cases c6 : f3 < 0
  · rw [if_pos c6]; exact no (fun h => by unfold RightF at h; dsimp only at h; omega)
  rw [if_neg c6]
  by_cases c7 : f3 > 9007199254740991
  · rw [if_pos c7]; exact no (fun h => by unfold RightF at h; dsimp only at h; omega)
  rw [if_neg c7, if_pos (by omega)]
  by_cases c8 : (f4.size : Int) ≤ 100000
  · rw [if_pos c8]
    by_cases c9 : f2 > 0
    · rw [if_pos c9, decide_eq_true (show RightF ⟨f0, f1, f2, f3, f4⟩ from ⟨by dsimp only; omega, by dsimp only; omega, by dsimp only; omega, by dsimp only; omega, by dsimp only; omega, by dsimp only; omega, by dsimp only; omega, by dsimp only; omega, c8, fun e => by dsimp only at e; omega⟩)]
    · rw [if_neg c9]
      have key : (f4.toList == ([] : List UInt8)) = decide (f4.toList = []) := by cases h : f4.toList <;> simp
      rw [key]
      congr 1
      rw [decide_eq_decide]
      exact ⟨fun h => show RightF ⟨f0, f1, f2, f3, f4⟩ from ⟨by dsimp only; omega, by dsimp only; omega, by dsimp only; omega, by dsimp only; omega, by dsimp only; omega, by dsimp only; omega, by dsimp only; omega, by dsimp only; omega, c8, fun _ => h⟩, fun h => h.2.2.2.2.2.2.2.2.2 (by dsimp only; omega)⟩
  · rw [if_neg c8]; exact no (fun h => c8 h.2.2.2.2.2.2.2.2.1)
theorem peer_calls (b g : Nat) (l : LkS) (V : Value) (w : World) (h : LkIs w b g l V) :
    Calls Try.prog 25 #[.pointer (some ⟨g, 0, none⟩)] w fun e w' => e = .returned (.int .i64 l.peer) ∧ w' = w := by
  obtain ⟨_, hc, _, _, _, _, _⟩ := h.cells
  clear h
  go_enter Try.func25, Try.ntmps25
  go_wp2
  go_ret
  exact ⟨rfl, rfl⟩
theorem waiting_calls (b g : Nat) (l : LkS) (V : Value) (w : World) (h : LkIs w b g l V) :
    Calls Try.prog 12 #[.pointer (some ⟨g, 0, none⟩)] w fun e w' => e = .returned (.int .i64 (l.wait.length : Int)) ∧ w' = w := by
  obtain ⟨_, _, hc, _, _, _, _⟩ := h.cells
  obtain ⟨A, c, e, _, _⟩ := Kd.R_reads h.R
  subst e
  clear h
  go_enter Try.func12, Try.ntmps12
  go_wp2
  go_ret
  exact ⟨rfl, rfl⟩
theorem isOut_nil {l : LkS} (h : l.wait = []) : l.isOut = false := by unfold LkS.isOut; rw [h]
theorem isOut_cons {l : LkS} (h : 0 < l.wait.length) : l.isOut = l.wait[0].f1 := by
  obtain ⟨e, p, wt, a, t, o, k⟩ := l
  cases wt with
  | nil => exact absurd h (by simp)
  | cons x xs => rfl
theorem out_calls (b g : Nat) (l : LkS) (V : Value) (w : World) (h : LkIs w b g l V) (hl : l.wait.length ≤ 32) :
    Calls Try.prog 27 #[.pointer (some ⟨g, 0, none⟩)] w fun e w' => e = .returned (.bool l.isOut) ∧ w' = w := by
  obtain ⟨_, _, hc, _, _, _, _⟩ := h.cells
  by_cases hp : 0 < l.wait.length
  · obtain ⟨gr, cap, e, hb, hlt, _⟩ := Kd.R_form h.R hp
    subst e
    have h1 := (rowB_at h.R 0 hp).2.1
    rw [isOut_cons hp]
    have h1a : w.cell? ⟨gr, 1, none⟩ = some (.bool l.wait[0].f1) := h1
    clear h1
    obtain ⟨x, hx⟩ : ∃ x, l.wait[0].f1 = x := ⟨_, rfl⟩
    obtain ⟨n, hn⟩ : ∃ n, l.wait.length = n := ⟨_, rfl⟩
    rw [hx] at h1a ⊢
    rw [hn] at hc hl
    have hpI : (0 : Int) < (n : Int) := by omega
    have hpN : 0 < n := by omega
    clear h hb hlt hx hn hp
    go_enter Try.func27, Try.ntmps27
    go_wp2
    go_ret
    exact ⟨rfl, rfl⟩
  · have h0 : l.wait = [] := List.eq_nil_of_length_eq_zero (by omega)
    rw [isOut_nil h0]
    obtain ⟨A, c, e, _, _⟩ := Kd.R_reads h.R
    subst e
    rw [h0] at hc
    have hc2 : w.cell? ⟨g, 2, none⟩ = some (.slice A 0 c) := hc
    clear h h0 hc hp hl
    go_enter Try.func27, Try.ntmps27
    go_wp2
    go_ret
    exact ⟨rfl, rfl⟩
/-- What New makes. -/
def LNewPost (w : World) (n : Int) (e : Ending) (w' : World) : Prop :=
  Below w.heap.size w w' ∧ ((n < 1 ∨ 9007199254740991 < n) ∧ e = .returned (.tuple #[.pointer none, .int .i64 1]) ∨ ¬ (n < 1 ∨ 9007199254740991 < n) ∧ ∃ g, w.heap.size ≤ g ∧ e = .returned (.tuple #[.pointer (some ⟨g, 0, none⟩), .int .i64 0]) ∧ ∀ b, b ≤ w.heap.size → LkIs w' b g (LkS.begin_ n) (.slice none 0 0))
theorem lnew_no {w w' : World} {n : Int} (h : n < 1 ∨ 9007199254740991 < n) (hb : Below w.heap.size w w') : LNewPost w n (.returned (.tuple #[.pointer none, .int .i64 1])) w' := ⟨hb, .inl ⟨h, rfl⟩⟩
theorem lnew_yes {w w' : World} {n : Int} {g : Nat} (h : ¬ (n < 1 ∨ 9007199254740991 < n)) (hb : Below w.heap.size w w') (hg : w.heap.size ≤ g) (hp : ∀ b, b ≤ w.heap.size → LkIs w' b g (LkS.begin_ n) (.slice none 0 0)) : LNewPost w n (.returned (.tuple #[.pointer (some ⟨g, 0, none⟩), .int .i64 0])) w' := ⟨hb, .inr ⟨h, g, hg, rfl, hp⟩⟩
theorem new_calls (n : Int) (w : World) : Calls Try.prog 13 #[.int .i64 n] w (LNewPost w n) := by
  by_cases h1 : n < 1
  · have d1 : decide (n < 1) = true := decide_eq_true h1
    go_enter Try.func13, Try.ntmps13
    go_wp2
    go_ret2
    exact lnew_no (.inl h1) (Below.refl _ _)
  · by_cases h2 : 9007199254740991 < n
    · have d1 : decide (n < 1) = false := decide_eq_false h1
      have d2 : decide (n > 9007199254740991) = true := decide_eq_true h2
      go_enter Try.func13, Try.ntmps13
      go_wp2
      go_ret2
      exact lnew_no (.inr h2) (Below.refl _ _)
    · have hno : ¬ (n < 1 ∨ 9007199254740991 < n) := fun h => h.elim h1 h2
      have HNO := Aside0.mk hno
      have d1 : decide (n < 1) = false := decide_eq_false h1
      have d2 : decide (n > 9007199254740991) = false := decide_eq_false h2
      clear hno
      go_enter Try.func13, Try.ntmps13
      go_wp2
      go_ret2
      exact lnew_yes HNO.out (below_alloc (Below.refl _ _) _) (Nat.le_refl _) (fun b hb => ⟨heap_alloc_new w _, Kd.R_nil _ _ _ _ _, hb⟩)
theorem reset_calls (b g : Nat) (l : LkS) (V : Value) (w : World) (h : LkIs w b g l V) :
    Calls Try.prog 30 #[.pointer (some ⟨g, 0, none⟩)] w fun e w' => e = .returned (.tuple #[]) ∧ LkIs w' b g l.reset (.slice none 0 0) ∧ LkOnly w w' g V (.slice none 0 0) := by
  have H := Aside0.mk h
  obtain ⟨h0, h1, h2, h3, h4, h5, h6⟩ := h.cells
  have f2 := h.frozen 2
  have f3 := h.frozen 3
  have f6 := h.frozen 6
  clear h
  go_enter Try.func30, Try.ntmps30
  go_wp2
  first | go_end0 | ((try simp only [Exit.inBlock, Exit.then]); refine bodyPost_ret (results_none rfl _ _ _) rfl ?_)
  exact ⟨rfl, ((H.out.setV (Kd.R_nil _ _ _ _ _)).set1 3 (.int .i64 0) { l with wait := [], acked := 0 } rfl rfl).set1 6 (.int .i64 0) l.reset rfl rfl, (((Only.refl w _).setS (.inl (.inl rfl)) _).setS (.inl (.inl rfl)) _).setS (.inl (.inl rfl)) _, .inr (fun k hk => by simp [Value.ownBlock] at hk)⟩

end Go.Proofs.Ytdpogggajdfedaa.P
