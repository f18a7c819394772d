/- The law SegmentScans, over plain functions. -/
import Derived.Test.YtmjgifhgodgghaaDoorKinds
import Derived.Test.YtmjgifhgodgghaaDoorPlainI
import Derived.Test.YtmjgifhgodgghaaDoorPx22
namespace Go.Proofs.YtmjgifhgodgghaaDoor.P
open Go.RowKit Go.Proofs.YtmjgifhgodgghaaDoorW.PrintWords
set_option linter.unusedVariables false
set_option linter.unusedSimpArgs false
set_option maxRecDepth 100000
def carillonlaw06_SegmentScans.PureUpto : Prop := ∀ (x0 : Int) (x1 : ByteArray), (Lit.int .i64 x0).wf = true → x1.size ≤ 140737488351232 → (fun _ : Int => 1) x0 + (fun s : ByteArray => s.size + 1) x1 ≤ 1048576 → ∃ k, carillonlaw06_SegmentScans.f k x0 x1 = some true
theorem szero_loop (x0 : Int) (x1 : ByteArray) (x5 : Bool) (x6 : List SR) (x7 x8 x9 : Int) (K : Nat) (hK : ∀ k, K ≤ k → carillonlaw06_SegmentScans.l0 k x0 x1 x5 x6 x7 x8 (wrap64 (x9 + 1)) = some true) (d : Nat) : ∀ (i k : Nat) (o : List SR), i + d = o.length → o.length ≤ 1000000000000000 → d + K < k →
    carillonlaw06_SegmentScans.l1 k x0 x1 x5 x6 x7 x8 x9 o (i : Int) = some true := by
  induction d with
  | zero =>
    intro i k o hi hl hk
    obtain ⟨k, rfl⟩ : ∃ x, k = x + 1 := ⟨k - 1, by omega⟩
    simp only [carillonlaw06_SegmentScans.l1]
    rw [if_neg (by omega), hK k (by omega)]
  | succ d ih =>
    intro i k o hi hl hk
    obtain ⟨k, rfl⟩ : ∃ x, k = x + 1 := ⟨k - 1, by omega⟩
    have ew : wrap64 ((i : Int) + 1) = ((i + 1 : Nat) : Int) := by unfold wrap64; omega
    simp only [carillonlaw06_SegmentScans.l1]
    rw [if_pos (by omega), if_pos (by omega), ew]
    exact ih (i + 1) k _ (by rw [List.length_set]; omega) (by rw [List.length_set]; omega) (by omega)
theorem scans_all (base : Int) (s : ByteArray) (hs : s.size ≤ 1048576) (kk : Nat) (hkk : 20000000 ≤ kk) : carillonlaw06_SegmentScans.f kk base s = some true := by
  obtain ⟨_, hu, hlen⟩ := scanV_rises s (s.size + 1) base 0 (Nat.zero_le _)
  unfold carillonlaw06_SegmentScans.f carillonref06_Scan.f
  rw [show carillonlaw06_examples.f = some true from rfl, rsscan_is s base (by omega) _ (by omega)]
  simp only [Option.bind_some]
  have hsc : ∀ k, 1100000 ≤ k → segment_Scan.f k base s = _ := fun k hk => sscan_is s base (by omega) k (by omega)
  generalize scanV s (s.size + 1) base 0 = R at *
  have h2 : ∀ k', 1 ≤ k' → carillonlaw06_SegmentScans.l0 k' base s true (R.1.map (·.1)) ((R.2.1 : Nat) : Int) R.2.2 (2 : Int) = some true := by
    intro k' hk'
    obtain ⟨k', rfl⟩ : ∃ x, k' = x + 1 := ⟨k' - 1, by omega⟩
    simp only [carillonlaw06_SegmentScans.l0]
    rw [if_neg (by omega)]
  have hr : ∀ (x : Int), x < 2 → ∀ (K : Nat), (∀ k', K ≤ k' → carillonlaw06_SegmentScans.l0 k' base s true (R.1.map (·.1)) ((R.2.1 : Nat) : Int) R.2.2 (wrap64 (x + 1)) = some true) →
      ∀ k', K + 2500000 ≤ k' → carillonlaw06_SegmentScans.l0 k' base s true (R.1.map (·.1)) ((R.2.1 : Nat) : Int) R.2.2 x = some true := by
    intro x hx K hK k' hk'
    obtain ⟨k', rfl⟩ : ∃ z, k' = z + 1 := ⟨k' - 1, by omega⟩
    simp only [carillonlaw06_SegmentScans.l0]
    rw [if_pos hx, hsc k' (by omega)]
    simp only [Option.bind_some]
    rw [srecords_is _ (by rw [List.length_map]; omega) k' (by rw [List.length_map]; omega)]
    simp only [Option.bind_some, if_true]
    exact szero_loop base s true _ _ _ x K hK (R.1.map (·.1)).length 0 k' _ (by omega) (by rw [List.length_map]; omega) (by rw [List.length_map]; omega)
  have h1 := hr 1 (by omega) 1 (fun k' hk' => by rw [show wrap64 (1 + 1) = 2 from by unfold wrap64; omega]; exact h2 k' hk')
  exact hr 0 (by omega) 2500001 (fun k' hk' => by rw [show wrap64 (0 + 1) = 1 from by unfold wrap64; omega]; exact h1 k' hk') _ (by omega)
theorem SegmentScans : carillonlaw06_SegmentScans.PureUpto := by
  intro x0 x1 _ _ hu
  exact ⟨20000000, scans_all x0 x1 (by dsimp only at hu; omega) _ (Nat.le_refl _)⟩
end Go.Proofs.YtmjgifhgodgghaaDoor.P
