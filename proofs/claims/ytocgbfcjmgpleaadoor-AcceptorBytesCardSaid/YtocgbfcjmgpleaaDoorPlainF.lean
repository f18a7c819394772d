/- The document's Encode comes to the same writing. -/
import Derived.Test.YtocgbfcjmgpleaaDoorPx10
import Derived.Test.YtocgbfcjmgpleaaDoorPx8
import Derived.Test.YtocgbfcjmgpleaaDoorPlainE
namespace Go.Proofs.YtocgbfcjmgpleaaDoor.P
open Go.RowKit Go.Proofs.YtocgbfcjmgpleaaDoorW.PrintWords Go.Proofs.YtocgbfcjmgpleaaDoorW.PrintLast Go.Proofs.YtocgbfcjmgpleaaDoorW.PrintMore
set_option linter.unusedSimpArgs false
set_option linter.unusedVariables false
set_option maxRecDepth 100000
theorem num_loop (m : Nat) : ∀ (k : Nat) (v : Int) (tl : List Int), 0 ≤ v → v < 18446744073709551616 → m + tl.length ≤ 8 → carillonref01_num.l0 (k + m + 1) v (List.replicate m 0 ++ tl) ((m : Int) - 1) = some (strOfNums (beI v m ++ tl)) := by
  induction m with
  | zero =>
    intro k v tl _ _ _
    simp only [carillonref01_num.l0]
    rw [if_neg (by omega)]
    simp [beI]
  | succ m ih =>
    intro k v tl h0 h1 hm
    rw [show k + (m + 1) + 1 = (k + m + 1) + 1 by omega, carillonref01_num.l0, if_pos (by omega), if_pos (by omega), if_pos (by simp; omega)]
    have e1 : wrap64 (((m + 1 : Nat) : Int) - 1 - 1) = (m : Int) - 1 := by rw [wrap64_id] <;> omega
    have e2 : IntKind.u64.wrap (Int.tdiv v 256) = v / 256 := by
      rw [Int.tdiv_eq_ediv_of_nonneg h0]
      show (v / 256) % 18446744073709551616 = _
      omega
    have e3 : (Int.tmod v 256) % 256 = v % 256 := by rw [Int.tmod_eq_emod_of_nonneg h0]; omega
    have e4 : (List.replicate (m + 1) (0 : Int) ++ tl).set (((m + 1 : Nat) : Int) - 1).toNat (v % 256) = List.replicate m 0 ++ (v % 256 :: tl) := by
      rw [show (((m + 1 : Nat) : Int) - 1).toNat = m by omega, List.replicate_succ', List.append_assoc, List.set_append]
      simp
    rw [e1, e2, e3, e4, ih k (v / 256) _ (by omega) (by omega) (by simp; omega), beI_snoc]
    simp
theorem num_f (v : Int) (m : Nat) (k : Nat) (h0 : 0 ≤ v) (h1 : v < 18446744073709551616) (hm : m ≤ 8) (hk : 10 ≤ k) : carillonref01_num.f k v (m : Int) = some (strOfNums (beI v m)) := by
  unfold carillonref01_num.f
  rw [if_pos (by omega), show ((m : Int)).toNat = m from rfl, if_pos (by omega), wrap64_id (by omega) (by omega)]
  have := num_loop m (k - m - 1) v [] h0 h1 (by simpa using hm)
  rw [show k - m - 1 + m + 1 = k by omega, List.append_nil, List.append_nil] at this
  exact this
theorem son_append (a b : List Int) : strOfNums (a ++ b) = strOfNums a ++ strOfNums b := by
  apply ba_eq
  rw [ByteArray.data_append, Array.toList_append, strOfNums_data, strOfNums_data, strOfNums_data, List.map_append]
theorem son_bytes (s : ByteArray) : strOfNums (bytesOf s) = s := by
  apply ba_eq
  rw [strOfNums_data]
  unfold bytesOf
  rw [List.map_map]
  conv => rhs; rw [← List.map_id s.data.toList]
  apply List.map_congr_left
  intro c _
  simp
theorem one_is (x : S51) (hx : WfI x) (k : Nat) (hk : 10 ≤ k) : carillonref01_one.f k x.f0 x.f1 x.f2 = some (match encOne x with
    | .error e => (⟨#[]⟩, e)
    | .ok l => (strOfNums l, 0)) := by
  obtain ⟨w0, w1, w2, w3, w4⟩ := hx
  unfold carillonref01_one.f encOne
  by_cases h4 : x.f0 = 4
  · have ew : carillonref01_width.f x.f0 = some 0 := by rw [h4]; rfl
    rw [ew, if_pos h4]
    simp only [Option.bind_some]
    rw [if_pos trivial, if_pos h4, if_neg (by decide)]
    by_cases h1 : x.f1 = 0
    · rw [if_pos h1, if_pos h1]
      by_cases hs : 100000 < x.f2.size
      · rw [if_pos (by omega), if_pos hs]
      · have eu : IntKind.u64.wrap (x.f2.size : Int) = (x.f2.size : Int) := by show (x.f2.size : Int) % 18446744073709551616 = _; omega
        rw [if_neg (by omega), if_neg hs, eu]
        have := num_f (x.f2.size : Int) 4 k (by omega) (by omega) (by decide) hk
        rw [show ((4 : Nat) : Int) = 4 from rfl] at this
        rw [this]
        simp only [Option.bind_some]
        rw [if_pos (by rw [strOfNums_size, beI_length]; omega), son_append, son_bytes]
    · rw [if_neg h1, if_neg h1]
  · rw [if_neg h4]
    by_cases hr : 1 ≤ x.f0 ∧ x.f0 ≤ 3
    · have ew : carillonref01_width.f x.f0 = some ((widthI x.f0 : Nat) : Int) ∧ 1 ≤ widthI x.f0 ∧ widthI x.f0 ≤ 8 := by
        have : x.f0 = 1 ∨ x.f0 = 2 ∨ x.f0 = 3 := by omega
        rcases this with h | h | h <;> rw [h] <;> exact ⟨rfl, by decide, by decide⟩
      obtain ⟨e1, e2, e3⟩ := ew
      rw [e1, if_pos hr]
      simp only [Option.bind_some]
      rw [if_neg (by omega), if_pos (by omega)]
      by_cases h2 : x.f2.toList = ([] : List UInt8)
      · rw [if_pos h2, if_pos h2]
        have en := num_f x.f1 (widthI x.f0) k w0 w1 e3 hk
        by_cases h8 : widthI x.f0 = 8
        · rw [if_neg (by omega), if_pos (.inl (by omega)), en]
          rfl
        · have es : shr .u64 x.f1 (wrap64 (8 * ((widthI x.f0 : Nat) : Int))) = x.f1 / 256 ^ widthI x.f0 := by
            rw [wrap64_id (by omega) (by omega)]
            unfold shr
            have : (8 * ((widthI x.f0 : Nat) : Int)).toNat = 8 * widthI x.f0 := by omega
            rw [this, Nat.min_eq_left (by show 8 * widthI x.f0 ≤ 64; omega), Int.pow_mul]
            rfl
          rw [if_pos (by omega), if_pos (by rw [wrap64_id] <;> omega), es]
          by_cases h0 : x.f1 / 256 ^ widthI x.f0 = 0
          · rw [if_pos h0, if_pos (.inr h0), en]
            rfl
          · rw [if_neg h0, if_neg (by rintro (h | h) <;> omega)]
      · rw [if_neg h2, if_neg h2]
    · have ew : carillonref01_width.f x.f0 = some 0 := by
        unfold carillonref01_width.f
        rw [if_neg (by omega), if_neg (by omega), if_neg (by omega)]
      rw [ew, if_neg hr]
      simp only [Option.bind_some]
      rw [if_pos trivial, if_neg h4]
theorem renc_loop (l : List S51) (hl : l.length ≤ 1000) (hw : ∀ x ∈ l, WfI x) (d : Nat) : ∀ (i : Nat) (acc : List Int) (k : Nat), i + d = l.length → acc.length ≤ i * 100004 → d + 12 ≤ k →
    carillonref01_Encode.l0 k l (strOfNums acc) (i : Int) = some (match encAll (l.drop i) with
      | .error e => (⟨#[]⟩, e)
      | .ok m => (strOfNums (acc ++ m), 0)) := by
  induction d with
  | zero =>
    intro i acc k hi ha hk
    obtain ⟨k, rfl⟩ : ∃ m, k = m + 1 := ⟨k - 1, by omega⟩
    simp only [carillonref01_Encode.l0]
    rw [if_neg (by omega), List.drop_of_length_le (by omega)]
    simp [encAll]
  | succ d ih =>
    intro i acc k hi ha hk
    obtain ⟨k, rfl⟩ : ∃ m, k = m + 1 := ⟨k - 1, by omega⟩
    have hlt : i < l.length := by omega
    have ew : wrap64 ((i : Int) + 1) = ((i + 1 : Nat) : Int) := by rw [wrap64_id] <;> omega
    rw [List.drop_eq_getElem_cons hlt]
    simp only [carillonref01_Encode.l0]
    have hx := hw _ (List.getElem_mem hlt)
    rw [if_pos (by omega), if_pos (by omega), rdT_nat l i hlt, ew, one_is _ hx k (by omega)]
    simp only [Option.bind_some, encAll]
    cases he : encOne l[i] with
    | error e =>
      simp only
      have : e ≠ 0 := by
        unfold encOne at he
        split at he
        · split at he
          · split at he
            · cases he; decide
            · cases he
          · cases he; decide
        · split at he
          · split at he
            · split at he
              · cases he
              · cases he; decide
            · cases he; decide
          · cases he; decide
      rw [if_neg this]
    | ok b =>
      have hb := encOne_len he
      simp only [if_true]
      rw [if_pos (by rw [strOfNums_size, strOfNums_size]; omega), ← son_append, ih (i + 1) (acc ++ b) k (by omega) (by simp; omega) (by omega)]
      cases encAll (l.drop (i + 1)) <;> simp
/-- The document's Encode, at every list of items. -/
theorem rencode_is (l : List S51) (hw : ∀ x ∈ l, WfI x) (k : Nat) (hk : 1012 ≤ k) : carillonref01_Encode.f k l = some (encS l) := by
  unfold carillonref01_Encode.f encS
  by_cases h : 1000 < l.length
  · rw [if_pos (by omega), if_pos h]
  · rw [if_neg (by omega), if_neg h]
    have := renc_loop l (by omega) hw l.length 0 [] k (by omega) (by simp) (by omega)
    rw [List.drop_zero] at this
    exact this
end Go.Proofs.YtocgbfcjmgpleaaDoor.P
