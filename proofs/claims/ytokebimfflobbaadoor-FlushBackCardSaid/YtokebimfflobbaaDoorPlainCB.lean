/- The program's Decode comes to what the document says: with a star, and at every shape. -/
import Derived.Test.YtokebimfflobbaaDoorPx6
import Derived.Test.YtokebimfflobbaaDoorPlainCA
namespace Go.Proofs.YtokebimfflobbaaDoor.P
open Go.RowKit Go.Proofs.YtokebimfflobbaaDoorW.PrintWords Go.Proofs.YtokebimfflobbaaDoorW.PrintLast Go.Proofs.YtokebimfflobbaaDoorW.PrintMore
set_option linter.unusedSimpArgs false
set_option linter.unusedVariables false
set_option maxRecDepth 100000
theorem star_up (k : Nat) (a0 : ByteArray) (st : Nat) (out : List S58) (i : Nat) (s : ByteArray) (hst : st < a0.size) (hz : a0.size ≤ 140737488351232) (hi : i ≤ a0.size) :
    codec_Decode.l0 (k + 6) a0 (st : Int) out (i : Int) s 0 =
      if i = a0.size ∨ i = st then (if s.toList = ([] : List UInt8) then some (out, 0) else codec_Decode.j4 (k + 2) a0 (st : Int) out ((st + 1 : Nat) : Int) s 0) else codec_Decode.j4 (k + 2) a0 (st : Int) out (i : Int) s 0 := by
  have ew : wrap64 ((st : Int) + 1) = ((st + 1 : Nat) : Int) := by rw [wrap64_id] <;> omega
  have ed : decide ((st : Int) ≥ 0) = true := decide_eq_true (by omega)
  simp only [codec_Decode.l0, codec_Decode.j1, codec_Decode.j2, codec_Decode.j3]
  by_cases h : i = a0.size
  · rw [if_pos (by omega), ed, if_pos (Or.inl h)]
    simp only [if_true, ew]
  · rw [if_neg (show ¬ ((i : Int) = (a0.size : Int)) by omega), if_neg (by decide)]
    by_cases h2 : i = st
    · subst h2
      rw [ed, if_pos (Or.inr rfl)]
      simp only [if_true, ew]
    · rw [if_neg (by omega), if_neg (by decide), if_neg (by omega)]
/-- What stands from a place on till the star, or the end. -/
def curS (hd tl : List UInt8) (i : Nat) : List Int := if i ≤ hd.length then (hd.drop i).map kindI else (tl.drop (i - hd.length - 1)).map kindI
theorem curS_end (hd tl : List UInt8) (i : Nat) (h : i = hd.length + 1 + tl.length ∨ i = hd.length) : curS hd tl i = [] := by
  unfold curS
  rcases h with h | h
  · rw [if_neg (by omega), List.drop_of_length_le (by omega)]; rfl
  · rw [if_pos (by omega), List.drop_of_length_le (by omega)]; rfl
theorem curS_in (hd tl : List UInt8) (i : Nat) (h : i < hd.length + 1 + tl.length) (hn : i ≠ hd.length) : curS hd tl i = kindI ((hd ++ 42 :: tl).getD i 0) :: curS hd tl (i + 1) := by
  unfold curS
  by_cases h1 : i < hd.length
  · rw [if_pos (by omega), if_pos (by omega), List.drop_eq_getElem_cons h1, List.map_cons, List.getD_eq_getElem?_getD, List.getElem?_append_left h1, List.getElem?_eq_getElem h1]
    rfl
  · obtain ⟨j, rfl⟩ : ∃ j, i = hd.length + (j + 1) := ⟨i - hd.length - 1, by omega⟩
    have h2 : j < tl.length := by omega
    rw [if_neg (by omega), if_neg (by omega), show hd.length + (j + 1) - hd.length - 1 = j by omega, show hd.length + (j + 1) + 1 - hd.length - 1 = j + 1 by omega, List.drop_eq_getElem_cons h2, List.map_cons, List.getD_eq_getElem?_getD, List.getElem?_append_right (by omega),
      show hd.length + (j + 1) - hd.length = j + 1 by omega, List.getElem?_cons_succ, List.getElem?_eq_getElem h2]
    rfl
theorem letter_in (hd tl : List UInt8) (hl : (hd ++ tl).all letB = true) (i : Nat) (h : i < hd.length + 1 + tl.length) (hn : i ≠ hd.length) : 1 ≤ kindI ((hd ++ 42 :: tl).getD i 0) := by
  rw [List.all_append, Bool.and_eq_true] at hl
  refine (letB_iff _).1 ?_
  rw [List.getD_eq_getElem?_getD]
  by_cases h1 : i < hd.length
  · rw [List.getElem?_append_left h1, List.getElem?_eq_getElem h1]
    exact List.all_eq_true.1 hl.1 _ (List.getElem_mem h1)
  · obtain ⟨j, rfl⟩ : ∃ j, i = hd.length + (j + 1) := ⟨i - hd.length - 1, by omega⟩
    have h2 : j < tl.length := by omega
    rw [List.getElem?_append_right (by omega), show hd.length + (j + 1) - hd.length = j + 1 by omega, List.getElem?_cons_succ, List.getElem?_eq_getElem h2]
    exact List.all_eq_true.1 hl.2 _ (List.getElem_mem h2)
theorem dec_star (a0 : ByteArray) (hd tl : List UInt8) (hL : a0.data.toList = hd ++ 42 :: tl) (hz : a0.size ≤ 140737488351232) (hl : (hd ++ tl).all letB = true) (ht : tl ≠ []) (n : Nat) : ∀ (i : Nat) (out : List S58) (s : ByteArray) (k : Nat), out.length + n = 1000 → i ≤ a0.size → s.size ≤ 1000000000000000 → 6 * n + 8 ≤ k →
    codec_Decode.l0 k a0 (hd.length : Int) out (i : Int) s 0 = some (decS (tl.map kindI) n (curS hd tl i) out s) := by
  have hsz : a0.size = hd.length + 1 + tl.length := by rw [← data_len, hL]; simp; omega
  have htl : 0 < tl.length := List.length_pos_iff.2 ht
  induction n with
  | zero =>
    intro i out s k ho hi hs hk
    obtain ⟨k, rfl⟩ : ∃ m, k = m + 6 := ⟨k - 6, by omega⟩
    rw [star_up k a0 hd.length out i s (by omega) hz hi]
    by_cases h : i = a0.size ∨ i = hd.length
    · rw [if_pos h, curS_end hd tl i (by omega)]
      have hb : curS hd tl (hd.length + 1) = tl.map kindI := by unfold curS; rw [if_neg (by omega), show hd.length + 1 - hd.length - 1 = 0 by omega, List.drop_zero]
      have hc := curS_in hd tl (hd.length + 1) (by omega) (by omega)
      rw [hb] at hc
      rw [hc]
      simp only [decS, nextK]
      by_cases g : s.toList = ([] : List UInt8)
      · rw [if_pos g, if_pos g]
      · rw [if_neg g, if_neg g, tail_is k a0 _ out (hd.length + 1) s _ (by omega) hz rfl (by rw [hL]; exact letter_in hd tl hl _ (by omega) (by omega)) (by omega) hs, if_pos (by omega)]
    · rw [if_neg h, tail_is k a0 _ out i s _ (by omega) hz rfl (by rw [hL]; exact letter_in hd tl hl _ (by omega) (by omega)) (by omega) hs, if_pos (by omega), curS_in hd tl i (by omega) (by omega)]
      rfl
  | succ n ih =>
    intro i out s k ho hi hs hk
    obtain ⟨k, rfl⟩ : ∃ m, k = m + 6 := ⟨k - 6, by omega⟩
    rw [star_up k a0 hd.length out i s (by omega) hz hi]
    by_cases h : i = a0.size ∨ i = hd.length
    · rw [if_pos h, curS_end hd tl i (by omega)]
      have hb : curS hd tl (hd.length + 1) = tl.map kindI := by unfold curS; rw [if_neg (by omega), show hd.length + 1 - hd.length - 1 = 0 by omega, List.drop_zero]
      have hc := curS_in hd tl (hd.length + 1) (by omega) (by omega)
      rw [hb] at hc
      simp only [decS]
      rw [show nextK (tl.map kindI) [] s out = (if s.toList = ([] : List UInt8) then .inl (out, 0) else .inr (kindI ((hd ++ 42 :: tl).getD (hd.length + 1) 0), curS hd tl (hd.length + 1 + 1))) by rw [hc]; rfl]
      by_cases g : s.toList = ([] : List UInt8)
      · rw [if_pos g, if_pos g]
      · rw [if_neg g, if_neg g, tail_is k a0 _ out (hd.length + 1) s _ (by omega) hz rfl (by rw [hL]; exact letter_in hd tl hl _ (by omega) (by omega)) (by omega) hs, if_neg (by omega), hL]
        simp only
        cases hts : takeS (kindI ((hd ++ 42 :: tl).getD (hd.length + 1) 0)) s with
        | error e => rfl
        | ok p =>
          obtain ⟨x, s'⟩ := p
          simp only
          have := take_size hts
          exact ih (hd.length + 1 + 1) (out ++ [x]) s' k (by simp; omega) (by omega) (by omega) (by omega)
    · rw [if_neg h, tail_is k a0 _ out i s _ (by omega) hz rfl (by rw [hL]; exact letter_in hd tl hl _ (by omega) (by omega)) (by omega) hs, if_neg (by omega), curS_in hd tl i (by omega) (by omega), hL]
      simp only [decS, nextK]
      cases hts : takeS (kindI ((hd ++ 42 :: tl).getD i 0)) s with
      | error e => rfl
      | ok p =>
        obtain ⟨x, s'⟩ := p
        simp only
        have := take_size hts
        exact ih (i + 1) (out ++ [x]) s' k (by simp; omega) (by omega) (by omega) (by omega)
/-- The program's Decode, at every shape and text. -/
theorem decode_is (a0 s : ByteArray) (hz : a0.size ≤ 140737488351232) (hs : s.size ≤ 1000000000000000) (k : Nat) (hk : 6008 ≤ k) : codec_Decode.f k a0 s = some (decodeS a0.data.toList s) := by
  unfold codec_Decode.f decodeS
  rw [right_is a0 hz]
  simp only [Option.bind_some]
  have ei : strings_IndexByte.f a0 42 = some (Lib.indexByte a0.data.toList 42) := rfl
  by_cases h : (42 : UInt8) ∈ a0.data.toList
  · obtain ⟨hd, tl, h1, h2⟩ := cut_at _ _ h
    rw [ei, h1, parse_star hd tl h2, idx_some hd tl 42 h2]
    by_cases g : ((hd ++ tl).all letB && !tl.isEmpty) = true
    · rw [if_pos g]
      rw [Bool.and_eq_true] at g
      have gt : tl ≠ [] := by rintro rfl; simp at g
      have := dec_star a0 hd tl h1 hz g.1 gt 1000 0 [] s k (by simp) (by omega) hs (by omega)
      rw [show curS hd tl 0 = hd.map kindI by simp [curS]] at this
      exact this
    · rw [if_neg g]
      rfl
  · rw [ei, parse_plain _ h, idx_none _ _ h]
    by_cases g : a0.data.toList.all letB = true
    · rw [if_pos g]
      have := dec_plain a0 hz g 1000 0 [] s k (by simp) (by omega) hs (by omega)
      rw [List.drop_zero] at this
      exact this
    · rw [if_neg g]
      rfl
end Go.Proofs.YtokebimfflobbaaDoor.P
