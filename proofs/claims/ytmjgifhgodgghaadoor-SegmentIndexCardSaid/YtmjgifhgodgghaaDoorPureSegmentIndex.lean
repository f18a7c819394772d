/- The law SegmentIndex, over plain functions. -/
import Derived.Test.YtmjgifhgodgghaaDoorKinds
import Derived.Test.YtmjgifhgodgghaaDoorPlainJ
import Derived.Test.YtmjgifhgodgghaaDoorPx20
namespace Go.Proofs.YtmjgifhgodgghaaDoor.P
open Go.RowKit Go.Proofs.YtmjgifhgodgghaaDoorW.PrintWords
set_option linter.unusedVariables false
set_option linter.unusedSimpArgs false
set_option maxRecDepth 100000
def carillonlaw06_SegmentIndex.Pure : Prop := ∀ (x0 : List S23) (x1 : Int) (x2 : Int) (x3 : Int), (fun l : List S23 => ∀ a ∈ l, wf23 a) x0 → (∀ n ∈ (fun l : List S23 => l.length * 64 :: l.flatMap lens23) x0, n ≤ 140737488351232) → (Lit.int .i64 x1).wf = true → (Lit.int .i64 x2).wf = true → (Lit.int .i64 x3).wf = true → ∃ k, carillonlaw06_SegmentIndex.f k x0 x1 x2 x3 = some true
theorem want_loop (l : List SR) (hl : l.length ≤ 30) (off most : Int) (x14 : List SR) (hx : x14 = ((l.filter fun r => decide (off ≤ r.f0)).take most.toNat)) (d : Nat) : ∀ (i k : Nat) (acc : List SR), i + d = l.length → 100 + d < k → acc.length ≤ i →
    acc ++ (((l.drop i).filter fun r => decide (off ≤ r.f0)).take (most - acc.length).toNat) = x14 → carillonlaw06_SegmentIndex.l0 k l off most true 0 x14 true acc (i : Int) = some true := by
  have hxl : x14.length ≤ 30 := by
    rw [hx]
    have h1 := List.length_take_le' most.toNat (l.filter fun r => decide (off ≤ r.f0))
    have h2 := List.length_filter_le (fun r : SR => decide (off ≤ r.f0)) l
    omega
  have fin : ∀ k, 100 ≤ k → carillonlaw06_records.f k x14 x14 = some true := fun k hk => srecords_is x14 (by omega) k (by omega)
  induction d with
  | zero =>
    intro i k acc hi hk ha h
    obtain ⟨k, rfl⟩ : ∃ m, k = m + 1 := ⟨k - 1, by omega⟩
    rw [List.drop_of_length_le (by omega)] at h
    simp only [List.filter_nil, List.take_nil, List.append_nil] at h
    subst h
    simp only [carillonlaw06_SegmentIndex.l0]
    rw [if_neg (by omega), fin k (by omega)]
    simp
  | succ d ih =>
    intro i k acc hi hk ha h
    obtain ⟨k, rfl⟩ : ∃ m, k = m + 1 := ⟨k - 1, by omega⟩
    have hlt : i < l.length := by omega
    have ew : wrap64 ((i : Int) + 1) = ((i + 1 : Nat) : Int) := by unfold wrap64; omega
    simp only [carillonlaw06_SegmentIndex.l0]
    rw [if_pos (by omega)]
    by_cases hm : (acc.length : Int) < most
    case neg =>
      rw [show (most - (acc.length : Int)).toNat = 0 by omega, List.take_zero, List.append_nil] at h
      subst h
      rw [if_neg hm, fin k (by omega)]
      simp
    rw [if_pos hm, if_pos (by omega), srdR l i hlt, ew]
    rw [List.drop_eq_getElem_cons hlt] at h
    by_cases ho : l[i].f0 ≥ off
    · rw [if_pos ho, if_pos (by omega)]
      have e : (most - (acc.length : Int)).toNat = (most - ((acc ++ [l[i]]).length : Int)).toNat + 1 := by rw [List.length_append]; simp; omega
      rw [e, List.filter_cons_of_pos (by simpa using ho), List.take_succ_cons] at h
      exact ih (i + 1) k _ (by omega) (by omega) (by rw [List.length_append]; simp; omega) (by rw [List.append_assoc]; exact h)
    · rw [if_neg ho]
      rw [List.filter_cons_of_neg (by simpa using ho)] at h
      exact ih (i + 1) k acc (by omega) (by omega) (by omega) h
theorem SegmentIndex : carillonlaw06_SegmentIndex.Pure := by
  intro x0 x1 x2 x3 hwf hn hw1 _ _
  obtain ⟨K, hK⟩ : ∃ K : Nat, 100000 ≤ K := ⟨100000, Nat.le_refl _⟩
  have h0 := hn _ (List.mem_cons_self ..)
  have hw := wf64 hw1
  obtain ⟨L, hL, hr, hl⟩ := rising_is x0 (by omega) (fun x hx => by
    have := hwf x hx
    unfold wf23 at this
    exact wf64 this.1) K (by omega)
  obtain ⟨s, hsw, hls, hsz, hs⟩ := written_is L hl (fun x hx => (risesR_ge hr x hx).2) K (by omega)
  refine ⟨K, ?_⟩
  have hsc : (scanV s (s.size + 1) 0 0).1 = posR 0 L := by rw [scan_all hls hr (s.size + 1) (by omega)]
  have hpk : pickV x2 x3.toNat (scanV s (s.size + 1) 0 0).1 = (L.filter fun r => decide (x2 ≤ r.f0)).take x3.toNat := by rw [hsc]; unfold pickV; rw [posR_fst]
  have hfrom : ∀ ix, (ix = [] ∨ ∃ ev, ix = idxV ev 0 (scanV s (s.size + 1) 0 0).1) → segment_From.f K 0 s ix x2 x3 = some ((L.filter fun r => decide (x2 ≤ r.f0)).take x3.toNat) := fun ix hix => by rw [sfrom_is s 0 x2 x3 (by omega) ix hix _ (by omega), hpk]
  have hpl : ((L.filter fun r => decide (x2 ≤ r.f0)).take x3.toNat).length ≤ 30 := by
    exact Nat.le_trans (List.length_take_le' _ _) (Nat.le_trans (List.length_filter_le _ _) hl)
  have main : ∀ ev : Int, 1 ≤ ev → ((segment_Index.f K 0 s ev).bind fun bt496 => ((segment_From.f K 0 s bt496.1 x2 x3).bind fun t500 => ((segment_From.f K 0 s ([] : List SE) x2 x3).bind fun t503 => ((carillonlaw06_records.f K t500 t503).bind fun t506 => (carillonlaw06_SegmentIndex.l0 K L x2 x3 true bt496.2 t500 t506 ([] : List SR) 0))))) = some true := by
    intro ev hev
    rw [sindex_is s 0 (by omega) ev _ (by omega), if_neg (by omega)]
    simp only [Option.bind_some]
    rw [hfrom _ (.inr ⟨ev.toNat, rfl⟩), hfrom [] (.inl rfl)]
    simp only [Option.bind_some]
    rw [srecords_is _ (by omega) _ (by omega)]
    simp only [Option.bind_some]
    exact want_loop L hl x2 x3 _ rfl L.length 0 K [] (by omega) (by omega) (by simp) (by simp)
  unfold carillonlaw06_SegmentIndex.f
  rw [show carillonlaw06_examples.f = some true from rfl, hL]
  simp only [Option.bind_some]
  rw [hsw]
  simp only [Option.bind_some]
  by_cases c : x1 < 0
  · rw [if_pos c]
    have g0 : wrap64 (-(wrap64 (x1 + 1))) = -(x1 + 1) := by unfold wrap64; omega
    have g1 := Int.tmod_nonneg (a := -(x1 + 1)) 10 (by omega)
    have g2 := Int.tmod_lt_of_pos (-(x1 + 1)) (show (0 : Int) < 10 by omega)
    rw [g0, show wrap64 (1 + Int.tmod (-(x1 + 1)) 10) = 1 + Int.tmod (-(x1 + 1)) 10 by unfold wrap64; omega]
    exact main _ (by omega)
  · rw [if_neg c]
    have g1 := Int.tmod_nonneg (a := x1) 10 (by omega)
    have g2 := Int.tmod_lt_of_pos x1 (show (0 : Int) < 10 by omega)
    rw [show wrap64 (1 + Int.tmod x1 10) = 1 + Int.tmod x1 10 by unfold wrap64; omega]
    exact main _ (by omega)
end Go.Proofs.YtmjgifhgodgghaaDoor.P
