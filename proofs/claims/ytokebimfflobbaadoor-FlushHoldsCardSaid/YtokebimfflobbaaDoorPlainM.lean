/- The program's Longest and the document's are one. -/
import Derived.Test.YtokebimfflobbaaDoorPx2
import Derived.Test.YtokebimfflobbaaDoorPx8
import Derived.Test.YtokebimfflobbaaDoorPlainL
import Derived.Test.YtokebimfflobbaaDoorPlainB
namespace Go.Proofs.YtokebimfflobbaaDoor.P
open Go.RowKit Go.Proofs.YtokebimfflobbaaDoorW.PrintWords Go.Proofs.YtokebimfflobbaaDoorW.PrintLast Go.Proofs.YtokebimfflobbaaDoorW.PrintMore
set_option linter.unusedSimpArgs false
set_option linter.unusedVariables false
set_option maxRecDepth 100000
def pfx (a b : List ByteArray) : Prop := cmn a b = a.length
instance (a b : List ByteArray) : Decidable (pfx a b) := by unfold pfx; infer_instance
theorem pfx_iff (a b : List ByteArray) : pfx a b ↔ a.length ≤ b.length ∧ ∀ i, i < a.length → (a.getD i ByteArray.empty).toList = (b.getD i ByteArray.empty).toList := by
  have hc := cmn_le a b
  constructor
  · intro h
    unfold pfx at h
    exact ⟨by omega, fun i hi => cmn_lt _ a b i (by omega)⟩
  · rintro ⟨h1, h2⟩
    unfold pfx
    by_cases g : cmn a b = a.length
    · exact g
    · exact absurd (h2 _ (by omega)) (cmn_at ByteArray.empty a b (by omega) (by omega))
theorem pfx_trans {a b c : List ByteArray} (h1 : pfx a b) (h2 : pfx b c) : pfx a c := by
  rw [pfx_iff] at *
  exact ⟨by omega, fun i hi => (h1.2 i hi).trans (h2.2 i (by omega))⟩
theorem pfx_two {a b c : List ByteArray} (h1 : pfx a c) (h2 : pfx b c) (h : a.length ≤ b.length) : pfx a b := by
  rw [pfx_iff] at *
  exact ⟨h, fun i hi => (h1.2 i hi).trans (h2.2 i (by omega)).symm⟩
theorem pfx_back {a b : List ByteArray} (h1 : pfx a b) (h : b.length ≤ a.length) : pfx b a := by
  rw [pfx_iff] at *
  exact ⟨h, fun i hi => (h1.2 i (by omega)).symm⟩
theorem pfx_self (a : List ByteArray) : pfx a a := cmn_self a
def lngS : List (List ByteArray) → List ByteArray × Int
  | [] => ([], 1)
  | b :: r => match lng b r with
    | some x => (x, 0)
    | none => ([], 11)
theorem lng_mem : ∀ (r : List (List ByteArray)) (b x : List ByteArray), lng b r = some x → x = b ∨ x ∈ r
  | [], b, x => by
    intro h
    simp only [lng, Option.some.injEq] at h
    exact .inl h.symm
  | y :: r, b, x => by
    intro h
    simp only [lng] at h
    split at h
    · rcases lng_mem r b x h with h | h
      · exact .inl h
      · exact .inr (List.mem_cons_of_mem _ h)
    · split at h
      · rcases lng_mem r y x h with h | h
        · exact .inr (by rw [h]; exact List.mem_cons_self ..)
        · exact .inr (List.mem_cons_of_mem _ h)
      · cases h
theorem rdL (l : List (List ByteArray)) (i : Nat) : rd_L1 l (i : Int) = l.getD i [] := rfl
theorem drop_rdL (l : List (List ByteArray)) (i : Nat) (h : i < l.length) : l.drop i = l.getD i [] :: l.drop (i + 1) := by
  rw [List.drop_eq_getElem_cons h]
  simp [List.getD_eq_getElem?_getD, List.getElem?_eq_getElem h]
theorem mem_getD (l : List (List ByteArray)) (i : Nat) (h : i < l.length) : l.getD i [] ∈ l := by
  simp [List.getD_eq_getElem?_getD, List.getElem?_eq_getElem h]
theorem longest_loop (M : Nat) (hM : M ≤ 8796093022207) (y : List (List ByteArray)) (hy : ∀ x ∈ y, x.length ≤ M) (hl : y.length ≤ 4611686018427387904) (d : Nat) : ∀ (i k : Nat) (best : List ByteArray), i + d = y.length → best.length ≤ M → d + M + 1 < k →
    flush_Longest.l1 k best y (y.length : Int) (i : Int) = some (match lng best (y.drop i) with | some x => (x, 0) | none => ([], 11)) := by
  induction d with
  | zero =>
    intro i k best hi hb hk
    obtain ⟨k, rfl⟩ : ∃ m, k = m + 1 := ⟨k - 1, by omega⟩
    simp only [flush_Longest.l1]
    rw [if_neg (by omega), if_pos (by simp; omega), List.drop_of_length_le (by omega)]
    simp [lng]
  | succ d ih =>
    intro i k best hi hb hk
    obtain ⟨k, rfl⟩ : ∃ m, k = m + 1 := ⟨k - 1, by omega⟩
    have ew : wrap64 ((i : Int) + 1) = ((i + 1 : Nat) : Int) := by rw [wr_id] <;> omega
    have hx := hy _ (mem_getD y i (by omega))
    simp only [flush_Longest.l1]
    rw [if_pos (by omega), if_pos (by omega), if_pos (by omega), rdL, ew, drop_rdL y i (by omega)]
    generalize y.getD i [] = x at hx
    rw [prefix_is x best (by omega) k (by omega), prefix_is best x (by omega) k (by omega)]
    simp only [Option.bind_some, lng, decide_eq_true_eq]
    by_cases h1 : cmn x best = x.length
    · rw [if_pos h1, if_pos h1]
      exact ih (i + 1) k best (by omega) hb (by omega)
    · rw [if_neg h1, if_neg h1]
      by_cases h2 : cmn best x = best.length
      · rw [if_pos h2, if_pos h2]
        exact ih (i + 1) k x (by omega) hx (by omega)
      · rw [if_neg h2, if_neg h2]
theorem longest_is (M : Nat) (hM : M ≤ 8796093022207) (l : List (List ByteArray)) (hy : ∀ x ∈ l, x.length ≤ M) (hl : l.length ≤ 4611686018427387904) (k : Nat) (hk : l.length + M + 3 < k) : flush_Longest.f k l = some (lngS l) := by
  unfold flush_Longest.f
  cases l with
  | nil => rfl
  | cons b r =>
    rw [List.length_cons] at hk hl
    rw [if_neg (by simp only [List.length_cons]; omega), if_pos (by simp only [List.length_cons]; omega)]
    obtain ⟨k, rfl⟩ : ∃ m, k = m + 1 := ⟨k - 1, by omega⟩
    simp only [flush_Longest.l0]
    rw [if_pos (by simp only [List.length_cons]; omega)]
    simp only [Option.bind_some, List.drop_succ_cons, List.drop_zero]
    have := longest_loop M hM r (fun x hx => hy x (List.mem_cons_of_mem _ hx)) (by omega) r.length 0 k (rd_L1 (b :: r) 0) (by omega) (hy b (List.mem_cons_self ..)) (by omega)
    rw [List.drop_zero] at this
    exact this
theorem rcommon_loop (a b : List ByteArray) (ha : a.length ≤ 4611686018427387904) (d : Nat) : ∀ i k : Nat, i + d = min a.length b.length → d < k →
    carillonref19_Common.l0 k a b (i : Int) = some (((i + cmn (a.drop i) (b.drop i) : Nat)) : Int) := by
  induction d with
  | zero =>
    intro i k hi hk
    obtain ⟨k, rfl⟩ : ∃ m, k = m + 1 := ⟨k - 1, by omega⟩
    simp only [carillonref19_Common.l0]
    have : cmn (a.drop i) (b.drop i) = 0 := by
      have := cmn_le (a.drop i) (b.drop i)
      rw [List.length_drop, List.length_drop] at this
      omega
    rw [this]
    by_cases h : (i : Int) < (a.length : Int)
    · rw [if_pos h, if_neg (by omega)]
      rfl
    · rw [if_neg h]
      rfl
  | succ d ih =>
    intro i k hi hk
    obtain ⟨k, rfl⟩ : ∃ m, k = m + 1 := ⟨k - 1, by omega⟩
    have ew : wrap64 ((i : Int) + 1) = ((i + 1 : Nat) : Int) := by rw [wr_id] <;> omega
    simp only [carillonref19_Common.l0]
    rw [if_pos (by omega), if_pos (by omega), if_pos (by omega), rdS, rdS, ew, drop_rd a i (by omega), drop_rd b i (by omega)]
    simp only [cmn]
    by_cases g : (a.getD i ByteArray.empty).toList = (b.getD i ByteArray.empty).toList
    · rw [if_pos g, if_pos g, ih (i + 1) k (by omega) (by omega)]
      congr 1
      omega
    · rw [if_neg g, if_neg g]
      rfl
theorem rcommon_is (a b : List ByteArray) (ha : a.length ≤ 4611686018427387904) (k : Nat) (hk : a.length < k) : carillonref19_Common.f k a b = some (cmn a b : Int) := by
  unfold carillonref19_Common.f
  rw [show (0 : Int) = ((0 : Nat) : Int) from rfl, rcommon_loop a b ha (min a.length b.length) 0 k (by omega) (by omega)]
  simp
theorem rprefix_is (a b : List ByteArray) (ha : a.length ≤ 4611686018427387904) (k : Nat) (hk : a.length < k) : carillonref19_Prefix.f k a b = some (decide (pfx a b)) := by
  unfold carillonref19_Prefix.f
  rw [rcommon_is a b ha k hk]
  simp only [Option.bind_some]
  congr 1
  by_cases h : pfx a b
  · have h' : (cmn a b : Int) = (a.length : Int) := by unfold pfx at h; omega
    rw [decide_eq_true h]
    simpa using h'
  · have h' : ¬ (cmn a b : Int) = (a.length : Int) := by unfold pfx at h; omega
    rw [decide_eq_false h]
    simpa using h'
/-- The round over the ones ahead. -/
theorem rlong_in (M : Nat) (hM : M ≤ 8796093022207) (l : List (List ByteArray)) (hy : ∀ x ∈ l, x.length ≤ M) (hl : l.length ≤ 4611686018427387904) (b i : Nat) (hb : b < l.length) (hi : i < l.length) (d : Nat) : ∀ (j k : Nat), j + d = i → d + M + 1 < k →
    ((∀ q, j ≤ q → q < i → pfx (l.getD i []) (l.getD q []) ∨ pfx (l.getD q []) (l.getD i [])) → ∃ k', k ≤ k' + d + 1 ∧ carillonref19_Longest.l1 k l (b : Int) (i : Int) (j : Int) = if (l.getD b []).length < (l.getD i []).length then carillonref19_Longest.l0 k' l (i : Int) ((i + 1 : Nat) : Int) else carillonref19_Longest.l0 k' l (b : Int) ((i + 1 : Nat) : Int)) ∧
    ((∃ q, j ≤ q ∧ q < i ∧ ¬ (pfx (l.getD i []) (l.getD q []) ∨ pfx (l.getD q []) (l.getD i []))) → carillonref19_Longest.l1 k l (b : Int) (i : Int) (j : Int) = some ([], 11)) := by
  have ew : wrap64 ((i : Int) + 1) = ((i + 1 : Nat) : Int) := by rw [wr_id] <;> omega
  induction d with
  | zero =>
    intro j k hj hk
    obtain ⟨k, rfl⟩ : ∃ m, k = m + 1 := ⟨k - 1, by omega⟩
    refine ⟨fun _ => ⟨k, by omega, ?_⟩, fun ⟨q, h1, h2, _⟩ => absurd h2 (by omega)⟩
    simp only [carillonref19_Longest.l1]
    rw [if_neg (by omega), if_pos (by omega), if_pos (by omega), if_pos (by omega), if_pos (by omega), rdL, rdL, ew]
    by_cases h : (l.getD b []).length < (l.getD i []).length
    · rw [if_pos h, if_pos (by omega)]
    · rw [if_neg h, if_neg (by omega)]
  | succ d ih =>
    intro j k hj hk
    obtain ⟨k, rfl⟩ : ∃ m, k = m + 1 := ⟨k - 1, by omega⟩
    have ej : wrap64 ((j : Int) + 1) = ((j + 1 : Nat) : Int) := by rw [wr_id] <;> omega
    have h1 := hy _ (mem_getD l i hi)
    have h2 := hy _ (mem_getD l j (by omega))
    obtain ⟨ih1, ih2⟩ := ih (j + 1) k (by omega) (by omega)
    have step : carillonref19_Longest.l1 (k + 1) l (b : Int) (i : Int) (j : Int) = if pfx (l.getD i []) (l.getD j []) ∨ pfx (l.getD j []) (l.getD i []) then carillonref19_Longest.l1 k l (b : Int) (i : Int) ((j + 1 : Nat) : Int) else some ([], 11) := by
      simp only [carillonref19_Longest.l1]
      rw [if_pos (by omega), if_pos (by omega), if_pos (by omega), if_pos (by omega), if_pos (by omega), rdL, rdL, ej, rprefix_is _ _ (by omega) k (by omega), rprefix_is _ _ (by omega) k (by omega)]
      simp only [Option.bind_some, decide_eq_true_eq]
      by_cases g1 : pfx (l.getD i []) (l.getD j [])
      · rw [if_pos g1, if_pos (.inl g1)]
      · rw [if_neg g1]
        by_cases g2 : pfx (l.getD j []) (l.getD i [])
        · rw [if_pos g2, if_pos (.inr g2)]
        · rw [if_neg g2, if_neg (fun h => h.elim g1 g2)]
    constructor
    · intro h
      rw [step, if_pos (h j (Nat.le_refl _) (by omega))]
      obtain ⟨k', e1, e2⟩ := ih1 (fun q hq1 hq2 => h q (by omega) hq2)
      exact ⟨k', by omega, e2⟩
    · rintro ⟨q, q1, q2, q3⟩
      rw [step]
      by_cases g : pfx (l.getD i []) (l.getD j []) ∨ pfx (l.getD j []) (l.getD i [])
      · rw [if_pos g]
        have : q ≠ j := fun e => q3 (by rw [e]; exact g)
        exact ih2 ⟨q, by omega, q2, q3⟩
      · rw [if_neg g]
theorem rlong_out (M : Nat) (hM : M ≤ 8796093022207) (l : List (List ByteArray)) (hy : ∀ x ∈ l, x.length ≤ M) (hl : l.length ≤ 4611686018427387904) (d : Nat) : ∀ (i b k : Nat), i + d = l.length → b < i → (∀ q, q < i → pfx (l.getD q []) (l.getD b [])) → d * (l.length + 2) + M + 2 < k →
    carillonref19_Longest.l0 k l (b : Int) (i : Int) = some (match lng (l.getD b []) (l.drop i) with | some x => (x, 0) | none => ([], 11)) := by
  induction d with
  | zero =>
    intro i b k hi hb hp hk
    obtain ⟨k, rfl⟩ : ∃ m, k = m + 1 := ⟨k - 1, by omega⟩
    simp only [carillonref19_Longest.l0]
    rw [if_neg (by omega), if_pos (by omega), if_pos (by omega), List.drop_of_length_le (by omega), rdL]
    rfl
  | succ d ih =>
    intro i b k hi hb hp hk
    rw [Nat.succ_mul] at hk
    obtain ⟨k, rfl⟩ : ∃ m, k = m + 1 := ⟨k - 1, by omega⟩
    simp only [carillonref19_Longest.l0]
    rw [if_pos (by omega), drop_rdL l i (by omega)]
    obtain ⟨h1, h2⟩ := rlong_in M hM l hy hl b i (by omega) (by omega) i 0 k (by omega) (by omega)
    rw [show ((0 : Nat) : Int) = 0 from rfl] at h1 h2
    simp only [lng]
    by_cases g1 : cmn (l.getD i []) (l.getD b []) = (l.getD i []).length
    · have g1' : pfx (l.getD i []) (l.getD b []) := g1
      have hlen := ((pfx_iff _ _).1 g1').1
      obtain ⟨k', e1, e2⟩ := h1 (fun q _ hq => by
        by_cases hc : (l.getD i []).length ≤ (l.getD q []).length
        · exact .inl (pfx_two g1' (hp q hq) hc)
        · exact .inr (pfx_two (hp q hq) g1' (by omega)))
      rw [e2, if_pos g1, if_neg (by omega)]
      refine ih (i + 1) b k' (by omega) (by omega) (fun q hq => ?_) (by omega)
      by_cases hq' : q = i
      · rw [hq']; exact g1'
      · exact hp q (by omega)
    · rw [if_neg g1]
      by_cases g2 : cmn (l.getD b []) (l.getD i []) = (l.getD b []).length
      · have g2' : pfx (l.getD b []) (l.getD i []) := g2
        have hlt : (l.getD b []).length < (l.getD i []).length := by
          by_cases hc : (l.getD i []).length ≤ (l.getD b []).length
          · exact absurd (pfx_back g2' hc) g1
          · omega
        obtain ⟨k', e1, e2⟩ := h1 (fun q _ hq => .inr (pfx_trans (hp q hq) g2'))
        rw [e2, if_pos g2, if_pos hlt]
        refine ih (i + 1) i k' (by omega) (by omega) (fun q hq => ?_) (by omega)
        by_cases hq' : q = i
        · rw [hq']; exact pfx_self _
        · exact pfx_trans (hp q (by omega)) g2'
      · rw [if_neg g2]
        exact h2 ⟨b, Nat.zero_le _, hb, fun h => h.elim g1 g2⟩
theorem rlongest_is (M : Nat) (hM : M ≤ 8796093022207) (l : List (List ByteArray)) (hy : ∀ x ∈ l, x.length ≤ M) (hl : l.length ≤ 4611686018427387904) (k : Nat) (hk : (l.length + 1) * (l.length + 2) + M + 5 < k) : carillonref19_Longest.f k l = some (lngS l) := by
  unfold carillonref19_Longest.f
  cases l with
  | nil => rfl
  | cons b r =>
    rw [if_neg (by simp only [List.length_cons]; omega)]
    have hz : (r.length + 1 + 1) * (r.length + 1 + 2) = r.length * (r.length + 1 + 2) + 2 * (r.length + 1 + 2) := by
      rw [show r.length + 1 + 1 = r.length + 2 by omega, Nat.add_mul]
    rw [List.length_cons] at hk hl
    obtain ⟨k, rfl⟩ : ∃ m, k = m + 2 := ⟨k - 2, by omega⟩
    simp only [carillonref19_Longest.l0]
    rw [if_pos (by simp only [List.length_cons]; omega)]
    simp only [carillonref19_Longest.l1]
    rw [if_neg (by omega), if_pos (by omega), if_pos (by simp only [List.length_cons]; omega), if_pos (by omega), if_pos (by simp only [List.length_cons]; omega), if_neg (by omega)]
    rw [show wrap64 ((0 : Int) + 1) = ((1 : Nat) : Int) from by rw [wr_id] <;> omega]
    have := rlong_out M hM (b :: r) hy (by rw [List.length_cons]; omega) r.length 1 0 k (by rw [List.length_cons]; omega) (by omega) (fun q hq => by
      obtain rfl : q = 0 := by omega
      exact pfx_self _) (by rw [List.length_cons]; omega)
    exact this
end Go.Proofs.YtokebimfflobbaaDoor.P
