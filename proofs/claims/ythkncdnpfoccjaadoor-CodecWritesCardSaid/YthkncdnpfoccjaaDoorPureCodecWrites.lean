import Derived.Test.YthkncdnpfoccjaaDoorKinds
import Derived.Test.YthkncdnpfoccjaaDoorPx9
import Derived.Test.YthkncdnpfoccjaaDoorPlainW
import Derived.Test.YthkncdnpfoccjaaDoorPlainF
namespace Go.Proofs.YthkncdnpfoccjaaDoor.P
open Go.RowKit Go.Proofs.YthkncdnpfoccjaaDoorW.PrintWords
set_option linter.unusedVariables false
set_option linter.unusedSimpArgs false
set_option maxRecDepth 100000
def carillonlaw01_CodecWrites.Pure : Prop := ∀ (x0 : List S32), (fun l : List S32 => ∀ a ∈ l, wf32 a) x0 → (∀ n ∈ (fun l : List S32 => l.length * 32 :: l.flatMap lens32) x0, n ≤ 140737488351232) → ∃ k, carillonlaw01_CodecWrites.f k x0 = some true
theorem rshape_loop (l : List S32) (hl : l.length ≤ 4611686018427387904) (d : Nat) : ∀ (i k : Nat) (acc : List UInt8), i + d = l.length → d < k → acc.length ≤ i →
    carillonref01_Shape.l0 k l ⟨acc.toArray⟩ (i : Int) = some (if (l.drop i).all shOk then (⟨(acc ++ (l.drop i).map shB).toArray⟩, true) else (⟨#[]⟩, false)) := by
  induction d with
  | zero =>
    intro i k acc hi hk ha
    obtain ⟨k, rfl⟩ : ∃ m, k = m + 1 := ⟨k - 1, by omega⟩
    simp only [carillonref01_Shape.l0]
    rw [if_neg (by omega), List.drop_of_length_le (by omega)]
    simp
  | succ d ih =>
    intro i k acc hi hk ha
    obtain ⟨k, rfl⟩ : ∃ m, k = m + 1 := ⟨k - 1, by omega⟩
    have ew : wrap64 ((i : Int) + 1) = ((i + 1 : Nat) : Int) := by rw [wrap64_id] <;> omega
    have hlt : i < l.length := by omega
    have hx := rdT_nat l i hlt
    simp only [carillonref01_Shape.l0]
    rw [if_pos (by omega), if_pos (by omega), hx, ew, List.drop_eq_getElem_cons hlt, List.all_cons, List.map_cons]
    generalize l[i] = x
    by_cases h1 : x.f0 < 1
    · rw [if_pos h1]
      have : shOk x = false := by simp [shOk]; omega
      rw [this]
      rfl
    rw [if_neg h1]
    by_cases h2 : x.f0 > 4
    · rw [if_pos h2]
      have : shOk x = false := by simp [shOk]; omega
      rw [this]
      rfl
    rw [if_neg h2]
    have hok : shOk x = true := by simp [shOk]; omega
    rw [wrap64_id (by omega) (by omega), if_pos (by omega), if_pos (by omega), if_pos (by omega)]
    have hext : (⟨#[98, 119, 108, 116]⟩ : ByteArray).extract (x.f0 - 1).toNat x.f0.toNat = ⟨#[shB x]⟩ := by
      obtain ⟨f0, f1, f2⟩ := x
      dsimp only at h1 h2 ⊢
      have : f0 = 1 ∨ f0 = 2 ∨ f0 = 3 ∨ f0 = 4 := by omega
      rcases this with rfl | rfl | rfl | rfl <;> (apply ba_eq; rw [ext_list]; simp [shB])
    have happ : (⟨acc.toArray⟩ : ByteArray) ++ ⟨#[shB x]⟩ = ⟨(acc ++ [shB x]).toArray⟩ := ba_eq (by rw [ByteArray.data_append]; simp)
    have hz : (⟨acc.toArray⟩ : ByteArray).size = acc.length := by rw [← data_len]
    rw [hext, hz, show (⟨#[shB x]⟩ : ByteArray).size = 1 from rfl, if_pos (by omega), happ, ih (i + 1) k _ (by omega) (by omega) (by simp; omega), hok, Bool.true_and, List.append_assoc]
    rfl
theorem rshape_is (l : List S32) (hl : l.length ≤ 4611686018427387904) (k : Nat) (hk : l.length < k) : carillonref01_Shape.f k l = some (if l.all shOk then (⟨(l.map shB).toArray⟩, true) else (⟨#[]⟩, false)) := by
  unfold carillonref01_Shape.f
  exact rshape_loop l hl l.length 0 k [] (by omega) hk (by simp)
theorem CodecWrites : carillonlaw01_CodecWrites.Pure := by
  intro l hw hn
  obtain ⟨hW, hL⟩ := wfI_of l hw hn
  refine ⟨6008 + l.length, ?_⟩
  unfold carillonlaw01_CodecWrites.f
  rw [show carillonlaw01_examples.f = some true from rfl]
  simp only [Option.bind_some, List.nil_append, List.length_nil]
  rw [if_pos (by omega)]
  rw [encode_is l hW _ (by omega), rencode_is l hW _ (by omega), shape_f l (by omega), rshape_is l (by omega) _ (by omega), same_f l (by omega) _ (by omega)]
  simp only [Option.bind_some, if_true]
  by_cases h : l.all shOk = true
  · rw [if_pos h, if_pos h]; simp
  · rw [if_neg h, if_neg h]; simp
end Go.Proofs.YthkncdnpfoccjaaDoor.P
