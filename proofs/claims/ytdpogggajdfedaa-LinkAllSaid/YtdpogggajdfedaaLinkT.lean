import Derived.Test.YtdpogggajdfedaaLinkS
import Derived.Outline
import Derived.Laws.BitsAllLaws
import Derived.WalkSpells
import Derived.StillTailTactics
namespace Go.Proofs.Ytdpogggajdfedaa.P
open Go.RowKit Go.Proofs.YtdpogggajdfedaaW.PrintWords Go.Proofs.YtdpogggajdfedaaW.PrintLast Go.Proofs.YtdpogggajdfedaaW.PrintMore
attribute [local go_sem] max2_int min2_int max_two min_two max_three min_three max_four min_four
set_option linter.unusedVariables false
set_option linter.unusedSimpArgs false
/-- What is taken of frames that come. -/
def tkn (T : Int) : List FrT → Int
  | [] => T
  | f :: fs => tkn (if f.f2 = T + 1 then T + 1 else T) fs
def LkS.tw (l : LkS) (t : Int) (o : Bool) : LkS := { l with taken := t, owes := o }
theorem ackd_with (l : LkS) (n t : Int) (o : Bool) : (l.tw t o).ackd n = (l.ackd n).tw t o := by
  unfold LkS.ackd
  show (if 1 ≤ n - l.acked ∧ n - l.acked ≤ l.wait.length ∧ (l.wait.getD (n - l.acked - 1).toNat z65).f1 = true then _ else _) = _
  split <;> rfl
theorem ackd_twice (l : LkS) (n : Int) : (l.ackd n).ackd n = l.ackd n := by
  by_cases hc : 1 ≤ n - l.acked ∧ n - l.acked ≤ l.wait.length ∧ (l.wait.getD (n - l.acked - 1).toNat z65).f1 = true
  · have e1 : l.ackd n = { l with wait := l.wait.drop (n - l.acked).toNat, acked := n, ticks := 0 } := if_pos hc
    have e2 : (l.ackd n).acked = n := by rw [e1]
    generalize l.ackd n = y at e2
    unfold LkS.ackd
    rw [if_neg (by rw [e2]; omega)]
  · have e1 : l.ackd n = l := if_neg hc
    rw [e1, e1]
theorem take_right {l : LkS} {f : FrT} (hr : RightF f) (h0 : f.f0 = l.peer) (h1 : f.f1 = l.epoch) : (l.take f).1 = (l.ackd f.f3).tw (if f.f2 = l.taken + 1 then l.taken + 1 else l.taken) (l.owes || decide (f.f2 ≠ 0)) := by
  have hm : l.meet f.f0 = l := by unfold LkS.meet; rw [if_neg (by omega)]
  obtain ⟨k1, k2, k3, k4⟩ := ackd_wa l f.f3
  unfold LkS.take
  rw [if_neg (fun h => h.elim (fun h => h hr) (fun h => by omega)), if_neg (fun h => h h1), hm]
  show (l.ackd f.f3).take1 f = _
  generalize l.ackd f.f3 = y at k1 k2 k3 k4 ⊢
  unfold LkS.take1
  rw [k1, k4]
  split <;> rfl
theorem tk_is {e eo a : Int} : ∀ (fs : List FrT) (l : LkS), l.peer = eo → l.epoch = e → (∀ f, f ∈ fs → RightF f ∧ f.f0 = eo ∧ f.f1 = e ∧ f.f3 = a) →
    tk l fs = (if fs = [] then l else l.ackd a).tw (tkn l.taken fs) (l.owes || fs.any (fun f => decide (f.f2 ≠ 0)))
  | [], l, _, _, _ => by
    show l = _
    rw [if_pos rfl]
    simp [tkn, LkS.tw]
  | f :: fs, l, hp, he, h => by
    obtain ⟨h1, h2, h3, h4⟩ := h f (List.mem_cons_self ..)
    have ht := take_right h1 (h2.trans hp.symm) (h3.trans he.symm)
    have hs : tk l (f :: fs) = tk (l.take f).1 fs := rfl
    rw [h4] at ht
    obtain ⟨k1, k2, k3, k4⟩ := ackd_wa l a
    have hc : ¬ (f :: fs = ([] : List FrT)) := by simp
    have ih := tk_is fs ((l.ackd a).tw (if f.f2 = l.taken + 1 then l.taken + 1 else l.taken) (l.owes || decide (f.f2 ≠ 0))) (k2.trans hp) (k3.trans he) (fun g hg => h g (List.mem_cons_of_mem _ hg))
    rw [hs, ht, if_neg hc, ih, ackd_with, ackd_twice]
    have e1 : ∀ (y : LkS) (t : Int) (o : Bool), (y.tw t o).taken = t ∧ (y.tw t o).owes = o := fun _ _ _ => ⟨rfl, rfl⟩
    have e2 : ∀ (y : LkS) (t t' : Int) (o o' : Bool), (y.tw t o).tw t' o' = y.tw t' o' := fun _ _ _ _ _ => rfl
    rw [(e1 _ _ _).1, (e1 _ _ _).2, List.any_cons, Bool.or_assoc]
    split
    · rw [e2]; rfl
    · rw [e2]; rfl
/-- What is taken of the frames that are due. -/
theorem tkn_frs (e p a t : Int) : ∀ (xs : List BdT) (k h : Nat), ∃ h', h ≤ h' ∧ tkn (a + (h : Int)) (LkS.frs e p a t k xs) = a + (h' : Int) ∧ (∀ j, h ≤ j → j < h' → k ≤ j ∧ ∃ b, xs[j - k]? = some b ∧ b.f2 = true) ∧ (k ≤ h → ∀ b, xs[h' - k]? = some b → b.f2 = false)
  | [], k, h => ⟨h, Nat.le_refl _, rfl, fun j h1 h2 => by omega, fun _ b hb => by cases hb⟩
  | x :: xs, k, h => by
    have up : ∀ h1 : Nat, h ≤ h1 → (h = h1 ∨ h = k ∧ h1 = k + 1 ∧ x.f2 = true) → tkn (a + (h : Int)) (LkS.frs e p a t k (x :: xs)) = tkn (a + (h1 : Int)) (LkS.frs e p a t (k + 1) xs) → (h = k → x.f2 = false → h1 = k) → (k ≤ h → h1 = k → x.f2 = false) →
        ∃ h', h ≤ h' ∧ tkn (a + (h : Int)) (LkS.frs e p a t k (x :: xs)) = a + (h' : Int) ∧ (∀ j, h ≤ j → j < h' → k ≤ j ∧ ∃ b, (x :: xs)[j - k]? = some b ∧ b.f2 = true) ∧ (k ≤ h → ∀ b, (x :: xs)[h' - k]? = some b → b.f2 = false) := by
      intro h1 a1 a2 a3 a4 a5
      obtain ⟨h', b1, b2, b3, b4⟩ := tkn_frs e p a t xs (k + 1) h1
      refine ⟨h', by omega, by rw [a3, b2], fun j c1 c2 => ?_, fun c1 b hb => ?_⟩
      · by_cases c3 : h1 ≤ j
        · obtain ⟨d1, b, d2, d3⟩ := b3 j c3 c2
          refine ⟨by omega, b, ?_, d3⟩
          rw [show j - k = (j - (k + 1)) + 1 by omega, List.getElem?_cons_succ]
          exact d2
        · rcases a2 with a2 | ⟨a2, a2', a2''⟩
          · omega
          · refine ⟨by omega, x, ?_, a2''⟩
            rw [show j - k = 0 by omega]
            rfl
      · by_cases c3 : k + 1 ≤ h1
        · refine b4 c3 b ?_
          rw [show h' - k = (h' - (k + 1)) + 1 by omega, List.getElem?_cons_succ] at hb
          exact hb
        · have c4 : h1 = k := by omega
          have c5 : h' = k := by
            by_cases c6 : k < h'
            · have := (b3 k (by omega) c6).1; omega
            · omega
          rw [c5, Nat.sub_self] at hb
          injection hb with hb
          rw [← hb]
          exact a5 c1 c4
    by_cases hx : x.f2 = true
    · have e1 : LkS.frs e p a t k (x :: xs) = ⟨e, p, a + 1 + k, t, x.f0⟩ :: LkS.frs e p a t (k + 1) xs := by show (if x.f2 = true then _ else _) = _; rw [if_pos hx]
      by_cases hk : h = k
      · refine up (k + 1) (by omega) (.inr ⟨hk, rfl, hx⟩) ?_ (fun _ h2 => by rw [hx] at h2; cases h2) (fun _ h2 => by omega)
        rw [e1]
        show tkn (if a + 1 + (k : Int) = a + (h : Int) + 1 then _ else _) _ = _
        rw [if_pos (by omega), show a + (h : Int) + 1 = a + ((k + 1 : Nat) : Int) by omega]
      · refine up h (Nat.le_refl _) (.inl rfl) ?_ (fun h1 => absurd h1 hk) (fun _ h2 => absurd h2 hk)
        rw [e1]
        show tkn (if a + 1 + (k : Int) = a + (h : Int) + 1 then _ else _) _ = _
        rw [if_neg (by omega)]
    · have hx2 : x.f2 = false := by simpa using hx
      have e1 : LkS.frs e p a t k (x :: xs) = LkS.frs e p a t (k + 1) xs := by show (if x.f2 = true then _ else _) = _; rw [if_neg hx]
      exact up h (Nat.le_refl _) (.inl rfl) (by rw [e1]) (fun h1 _ => h1) (fun _ _ => hx2)
theorem frs_nil {e p a t : Int} : ∀ {xs : List BdT} {k : Nat}, LkS.frs e p a t k xs = [] → ∀ b, b ∈ xs → b.f2 = false
  | x :: xs, k, h, b, hb => by
    have h : (if x.f2 = true then (⟨e, p, a + 1 + k, t, x.f0⟩ : FrT) :: LkS.frs e p a t (k + 1) xs else LkS.frs e p a t (k + 1) xs) = [] := h
    split at h
    · cases h
    · rename_i hx
      rcases List.mem_cons.1 hb with hb | hb
      · rw [hb]; simpa using hx
      · exact frs_nil h b hb
/-- What is put out, to one that takes. -/
theorem outs_tkn {l : LkS} {T : Int} {n m h : Nat} (o : OutI l T n m h) (ha : 0 ≤ l.acked) (hp : l.peer ≠ 0) : ∃ h', h ≤ h' ∧ h' ≤ min 8 n ∧ tkn T l.outs.2 = l.acked + (h' : Int) ∧ (∀ j, h ≤ j → j < h' → ∃ b, l.wait[j]? = some b ∧ b.f2 = true) ∧ (∀ b, h' < 8 → l.wait[h']? = some b → b.f2 = false) ∧
    (l.outs.2.any (fun f => decide (f.f2 ≠ 0)) = true ↔ ∃ j b, j < 8 ∧ l.wait[j]? = some b ∧ b.f2 = true) := by
  have hd : l.due = LkS.frs l.epoch l.peer l.acked l.taken 0 (l.wait.take 8) := if_neg hp
  have hT := o.lt
  have hm := o.m8
  have hmn := o.mn
  have hh := o.hm
  obtain ⟨h', b1, b2, b3, b4⟩ := tkn_frs l.epoch l.peer l.acked l.taken (l.wait.take 8) 0 h
  rw [← hd] at b2
  have hany : (l.outs.2.any (fun f => decide (f.f2 ≠ 0)) = true ↔ ∃ j b, j < 8 ∧ l.wait[j]? = some b ∧ b.f2 = true) := by
    constructor
    · intro hA
      rw [List.any_eq_true] at hA
      obtain ⟨f, hf, hf2⟩ := hA
      obtain ⟨_, _, _, h | ⟨_, j, b, hj, hb, hbd, _⟩⟩ := outs_mem hf
      · exact absurd h.1 (of_decide_eq_true hf2)
      · exact ⟨j, b, hj, hb, hbd⟩
    · rintro ⟨j, b, hj, hb, hbd⟩
      have hne : l.due ≠ [] := fun he => by
        rw [hd] at he
        have := frs_nil he b (List.mem_of_getElem? (i := j) (by rw [List.getElem?_take, if_pos hj]; exact hb))
        rw [this] at hbd
        cases hbd
      have ho : l.outs.2 = l.due := by
        show (if l.due = [] ∧ l.owes = true then _ else l.due) = _
        rw [if_neg (fun h => hne h.1)]
      rw [ho]
      obtain ⟨f, fs, hfs⟩ := List.exists_cons_of_ne_nil hne
      have hf : f ∈ l.due := by rw [hfs]; exact List.mem_cons_self ..
      rw [List.any_eq_true]
      refine ⟨f, hf, ?_⟩
      rw [hd] at hf
      obtain ⟨j, b, _, _, rfl⟩ := frs_mem _ _ _ _ _ _ hf
      exact decide_eq_true (by show l.acked + 1 + ((0 + j : Nat) : Int) ≠ 0; omega)
  have hT2 : tkn T l.outs.2 = l.acked + (h' : Int) := by
    by_cases hc : l.due = [] ∧ l.owes = true
    · have ho : l.outs.2 = [⟨l.epoch, l.peer, 0, l.taken, ⟨#[]⟩⟩] := by
        show (if l.due = [] ∧ l.owes = true then _ else l.due) = _
        rw [if_pos hc]
      rw [hc.1] at b2
      have b2 : l.acked + (h : Int) = l.acked + (h' : Int) := b2
      rw [ho]
      show (if (0 : Int) = T + 1 then T + 1 else T) = _
      rw [if_neg (by omega)]
      omega
    · have ho : l.outs.2 = l.due := by
        show (if l.due = [] ∧ l.owes = true then _ else l.due) = _
        rw [if_neg hc]
      rw [ho, ← hT, b2]
  have hlt : ∀ j b, (l.wait.take 8)[j]? = some b → j < 8 ∧ j < n ∧ l.wait[j]? = some b := fun j b hb => by
    have := (List.getElem?_eq_some_iff.1 hb).1
    rw [List.length_take, o.ln] at this
    rw [List.getElem?_take, if_pos (by omega)] at hb
    exact ⟨by omega, by omega, hb⟩
  refine ⟨h', b1, ?_, hT2, fun j c1 c2 => ?_, fun b c1 hb => ?_, hany⟩
  · by_cases c : h < h'
    · obtain ⟨_, b, hb, _⟩ := b3 (h' - 1) (by omega) (by omega)
      obtain ⟨d1, d2, _⟩ := hlt _ b hb
      omega
    · omega
  · obtain ⟨_, b, hb, hbd⟩ := b3 j c1 c2
    exact ⟨b, (hlt _ b hb).2.2, hbd⟩
  · refine b4 (Nat.zero_le _) b ?_
    rw [Nat.sub_zero, List.getElem?_take, if_pos c1]
    exact hb

end Go.Proofs.Ytdpogggajdfedaa.P
