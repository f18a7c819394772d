/- The law SegmentFinds, over plain functions. -/
import Derived.Test.YtmjgifhgodgghaaDoorKinds
import Derived.Test.YtmjgifhgodgghaaDoorPlainI
import Derived.Test.YtmjgifhgodgghaaDoorPx23
namespace Go.Proofs.YtmjgifhgodgghaaDoor.P
open Go.RowKit Go.Proofs.YtmjgifhgodgghaaDoorW.PrintWords
set_option linter.unusedVariables false
set_option linter.unusedSimpArgs false
set_option maxRecDepth 100000
def carillonlaw06_SegmentFinds.PureUpto : Prop := ∀ (x0 : Int) (x1 : ByteArray) (x2 : Int) (x3 : Int) (x4 : Int), (Lit.int .i64 x0).wf = true → x1.size ≤ 140737488351232 → (Lit.int .i64 x2).wf = true → (Lit.int .i64 x3).wf = true → (Lit.int .i64 x4).wf = true → (fun _ : Int => 1) x0 + (fun s : ByteArray => s.size + 1) x1 + (fun _ : Int => 1) x2 + (fun _ : Int => 1) x3 + (fun _ : Int => 1) x4 ≤ 1048576 → ∃ k, carillonlaw06_SegmentFinds.f k x0 x1 x2 x3 x4 = some true
theorem finds_l0 (x0 : Int) (x1 : ByteArray) (x3 x4 : Int) (l : List SE) (hl : l.length ≤ 1000000000000000) (K : Nat) (hK : ∀ k, K ≤ k → ((segment_Find.f l x3).bind fun t428 => ((carillonref06_Find.f k l x3).bind fun t429 => (if t428 = t429 then ((segment_From.f k x0 x1 l x3 x4).bind fun t430 => ((carillonref06_From.f k x0 x1 x3 x4).bind fun t433 => ((carillonlaw06_records.f k t430 t433).bind fun t436 => (if true = true then (some t436) else (some false))))) else (some false)))) = some true) (d : Nat) : ∀ (i k : Nat), i + d = l.length → d + K < k → carillonlaw06_SegmentFinds.l0 k x0 x1 x3 x4 true l l (i : Int) = some true := by
  induction d with
  | zero =>
    intro i k hi hk
    obtain ⟨k, rfl⟩ : ∃ x, k = x + 1 := ⟨k - 1, by omega⟩
    simp only [carillonlaw06_SegmentFinds.l0]
    rw [if_neg (by omega)]
    have := hK k (by omega)
    simpa only [if_true] using this
  | succ d ih =>
    intro i k hi hk
    obtain ⟨k, rfl⟩ : ∃ x, k = x + 1 := ⟨k - 1, by omega⟩
    have ew : wrap64 ((i : Int) + 1) = ((i + 1 : Nat) : Int) := by unfold wrap64; omega
    simp only [carillonlaw06_SegmentFinds.l0]
    rw [if_pos (by omega), if_pos (by omega), if_pos (by omega), ew, ih (i + 1) k (by omega) (by omega), if_neg (by simp)]
theorem finds_all (base : Int) (s : ByteArray) (ev off most : Int) (hs : s.size ≤ 1048576) : carillonlaw06_SegmentFinds.f 20000000 base s ev off most = some true := by
  obtain ⟨hri, hu, hlen⟩ := scanV_rises s (s.size + 1) base 0 (Nat.zero_le _)
  have hj : ∀ (l : List SE), (l = [] ∨ ∃ e, l = idxV e 0 (scanV s (s.size + 1) base 0).1) → carillonlaw06_SegmentFinds.j0 20000000 base s off most true l l false = some true := by
    intro l hl
    have hris : risesE base l := by
      rcases hl with rfl | ⟨e, rfl⟩
      · exact trivial
      · exact idxV_rises e _ 0 base hri
    have hll : l.length ≤ 1048576 := by
      rcases hl with rfl | ⟨e, rfl⟩
      · simp
      · have := idxV_len e (scanV s (s.size + 1) base 0).1 0
        omega
    simp only [carillonlaw06_SegmentFinds.j0]
    rw [if_neg (by decide)]
    refine finds_l0 base s off most l (by omega) 10000000 (fun k hk => ?_) l.length 0 19999999 (by omega) (by omega)
    rw [sfind_is l base off hris (by omega), rsfind_is l off (by omega) k (by omega), sfrom_is s base off most (by omega) l hl k (by omega), rsfrom_is s base off most (by omega) k (by omega)]
    simp only [Option.bind_some, if_true]
    rw [srecords_is _ ?_ k ?_]
    · simp
    · unfold pickV
      have h1 := List.length_take_le' most.toNat (((scanV s (s.size + 1) base 0).1.map (·.1)).filter fun r => decide (off ≤ r.f0))
      have h2 := List.length_filter_le (fun r : SR => decide (off ≤ r.f0)) ((scanV s (s.size + 1) base 0).1.map (·.1))
      rw [List.length_map] at h2
      omega
    · unfold pickV
      have h1 := List.length_take_le' most.toNat (((scanV s (s.size + 1) base 0).1.map (·.1)).filter fun r => decide (off ≤ r.f0))
      have h2 := List.length_filter_le (fun r : SR => decide (off ≤ r.f0)) ((scanV s (s.size + 1) base 0).1.map (·.1))
      rw [List.length_map] at h2
      omega
  unfold carillonlaw06_SegmentFinds.f
  rw [show carillonlaw06_examples.f = some true from rfl, sindex_is s base (by omega) ev _ (by omega), rsindex_is s base (by omega) ev _ (by omega)]
  simp only [Option.bind_some]
  by_cases h : ev < 1
  · rw [if_pos h, if_pos h]
    have := hj [] (.inl rfl)
    simpa using this
  · rw [if_neg h, if_neg h]
    have := hj _ (.inr ⟨ev.toNat, rfl⟩)
    simpa using this
theorem SegmentFinds : carillonlaw06_SegmentFinds.PureUpto := by
  intro x0 x1 x2 x3 x4 _ _ _ _ _ hu
  exact ⟨20000000, finds_all x0 x1 x2 x3 x4 (by dsimp only at hu; omega)⟩
end Go.Proofs.YtmjgifhgodgghaaDoor.P
