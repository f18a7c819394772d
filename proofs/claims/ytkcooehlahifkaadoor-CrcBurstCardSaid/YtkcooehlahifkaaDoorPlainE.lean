/- A frame is taken as it was made, whatever stands behind it; of a beginning of a frame nothing is taken; frames one behind the other are told as they were. -/
import Derived.Test.YtkcooehlahifkaaDoorPlainD
namespace Go.Proofs.YtkcooehlahifkaaDoor.P
open Go.RowKit Go.Proofs.YtkcooehlahifkaaDoorW.PrintWords Go.Proofs.YtkcooehlahifkaaDoorW.PrintLast Go.Proofs.YtkcooehlahifkaaDoorW.PrintMore
set_option linter.unusedSimpArgs false
set_option linter.unusedVariables false
theorem word4_len (n : Nat) : (word4 n).length = 4 := rfl
theorem frameL_len (b : List UInt8) : (frameL b).length = b.length + 8 := by
  unfold frameL
  rw [List.length_append, List.length_append, word4_len, word4_len]
  omega
theorem word4_inj {m n : Nat} (hm : m < 4294967296) (hn : n < 4294967296) (h : word4 m = word4 n) : m = n := by
  have := congrArg num4 h
  rw [← List.append_nil (word4 m), ← List.append_nil (word4 n), num4_word m hm, num4_word n hn] at this
  exact this
theorem drop4 (n : Nat) (x : List UInt8) : (word4 n ++ x).drop 4 = x := List.drop_left' (word4_len n)
theorem take4 (n : Nat) (x : List UInt8) : (word4 n ++ x).take 4 = word4 n := List.take_left' (word4_len n)
/-- The bytes of a frame, its sum under a letter. -/
theorem frameL_q (b : ByteArray) : ∃ q, q < 4294967296 ∧ sumOf (word4 b.size) (ls b) = q ∧ frameL (ls b) = word4 b.size ++ (word4 q ++ ls b) := by
  refine ⟨_, sumOf_lt (word4 b.size) (ls b), Eq.refl _, ?_⟩
  unfold frameL
  rw [ls_len, List.append_assoc]
/-- Take of a frame with a rest behind it. -/
theorem take_frame (b : ByteArray) (hb : b.size ≤ 400000) (s : ByteArray) (r : List UInt8) (hs : ls s = frameL (ls b) ++ r) : takeV s = (b, ((b.size + 8 : Nat) : Int), 0) := by
  have hl : s.size = b.size + 8 + r.length := by rw [← ls_len, hs, List.length_append, frameL_len, ls_len]
  obtain ⟨q, hql, hq, hf⟩ := frameL_q b
  have h1 : ls s = word4 b.size ++ (word4 q ++ (ls b ++ r)) := by rw [hs, hf, List.append_assoc, List.append_assoc]
  have hn : num4 (ls s) = b.size := by rw [h1]; exact num4_word _ (by omega) _
  have hd4 : (ls s).drop 4 = word4 q ++ (ls b ++ r) := by rw [h1, drop4]
  have ht4 : (ls s).take 4 = word4 b.size := by rw [h1, take4]
  have hd8 : (ls s).drop 8 = ls b ++ r := by rw [show 8 = 4 + 4 by omega, ← List.drop_drop, hd4, drop4]
  unfold takeV
  rw [hn, if_neg (by omega), if_neg (by omega), if_neg (by omega), hd4, ht4, hd8]
  have e1 : (ls b ++ r).take b.size = ls b := by rw [← ls_len, List.take_left]
  rw [e1, num4_word _ hql, hq, if_pos rfl]
  have e2 : s.extract 8 (8 + b.size) = b := by
    apply ls_inj
    rw [ls_extract, hd8, show 8 + b.size - 8 = b.size by omega, e1]
  rw [e2, show 8 + b.size = b.size + 8 by omega]
/-- Take of a beginning of a frame, shorter than it. -/
theorem take_torn (b : ByteArray) (hb : b.size ≤ 400000) (s : ByteArray) (r t : List UInt8) (hs : ls s ++ t = frameL (ls b) ++ r) (hlt : s.size < b.size + 8) : takeV s = (⟨#[]⟩, 0, 2) := by
  unfold takeV
  by_cases h4 : s.size < 4
  · rw [if_pos h4]
  · obtain ⟨q, hql, hq, hf⟩ := frameL_q b
    have h1 : ls s ++ t = word4 b.size ++ (word4 q ++ (ls b ++ r)) := by rw [hs, hf, List.append_assoc, List.append_assoc]
    have hn : num4 (ls s) = b.size := by
      rw [← num4_take (ls s) 4 (by omega)]
      have : (ls s).take 4 = (ls s ++ t).take 4 := by rw [List.take_append_of_le_length (by rw [ls_len]; omega)]
      rw [this, h1, take4, ← List.append_nil (word4 b.size)]
      exact num4_word _ (by omega) _
    rw [if_neg h4, hn, if_neg (by omega), if_pos (by omega)]
/-- Frames one behind the other. -/
def framesL : List ByteArray → List UInt8
  | [] => []
  | b :: l => frameL (ls b) ++ framesL l
theorem framesL_append (a b : List ByteArray) : framesL (a ++ b) = framesL a ++ framesL b := by
  induction a with
  | nil => rfl
  | cons x a ih => simp [framesL, ih]
/-- All of a text that is: frames, and a rest that is no frame (or nothing). -/
theorem all_frames (s : ByteArray) (hs : s.size ≤ 9223372036854775807) : ∀ (fs : List ByteArray) (u k : Nat) (l : List ByteArray) (e : Int) (r : List UInt8),
    (∀ b ∈ fs, b.size ≤ 400000) → (ls s).drop u = framesL fs ++ r → u ≤ s.size → fs.length + 1 < k → l.length + fs.length < 8796093022208 →
    (r = [] ∧ e = 0 ∨ r ≠ [] ∧ e ≠ 0 ∧ ∀ q : ByteArray, ls q = r → takeV q = (⟨#[]⟩, 0, e)) →
    crc_All.l0 k s l (u : Int) = some (l ++ fs, ((s.size - r.length : Nat) : Int), e) := by
  intro fs
  induction fs with
  | nil =>
    intro u k l e r hf hd hu hk hl hr
    obtain ⟨k, rfl⟩ : ∃ m, k = m + 1 := ⟨k - 1, by omega⟩
    have hlen : s.size - u = r.length := by have := congrArg List.length hd; rw [List.length_drop, ls_len] at this; simpa [framesL] using this
    rw [crc_All.l0]
    rcases hr with ⟨rfl, rfl⟩ | ⟨h1, h2, h3⟩
    · simp only [List.length_nil] at hlen
      rw [if_pos (by omega), List.append_nil]
      simp only [List.length_nil, Nat.sub_zero]
      rw [show u = s.size by omega]
    · have hpos : 0 < r.length := List.length_pos_iff.2 h1
      rw [if_neg (by omega), if_pos (by omega), if_pos (by omega), show ((u : Int)).toNat = u from rfl]
      have hz : (s.extract u s.size).size = s.size - u := by rw [← ls_len, ls_extract, List.length_take, List.length_drop, ls_len]; omega
      rw [take_is _ (by omega), h3 (s.extract u s.size) (by rw [ls_extract, hd, List.take_of_length_le (by simp [framesL]; omega)]; rfl), Option.bind_some, if_neg h2, List.append_nil]
      rw [show u = s.size - r.length by omega]
  | cons b fs ih =>
    intro u k l e r hf hd hu hk hl hr
    obtain ⟨k, rfl⟩ : ∃ m, k = m + 1 := ⟨k - 1, by omega⟩
    have hlen : s.size - u = b.size + 8 + ((framesL fs).length + r.length) := by
      have := congrArg List.length hd
      rw [List.length_drop, ls_len, framesL, List.length_append, List.length_append, frameL_len, ls_len] at this
      omega
    rw [crc_All.l0, if_neg (by omega), if_pos (by omega), if_pos (by omega), show ((u : Int)).toNat = u from rfl]
    have hz : (s.extract u s.size).size = s.size - u := by rw [← ls_len, ls_extract, List.length_take, List.length_drop, ls_len]; omega
    have hb : b.size ≤ 400000 := hf b List.mem_cons_self
    rw [take_is _ (by omega), take_frame b hb (s.extract u s.size) (framesL fs ++ r) (by rw [ls_extract, hd, List.take_of_length_le (by rw [← hd, List.length_drop, ls_len]; omega), framesL, List.append_assoc])]
    rw [List.length_cons] at hk hl
    rw [Option.bind_some]
    show (if (0 : Int) = 0 then (if l.length < 8796093022208 then crc_All.l0 k s (l ++ [b]) (wrap64 ((u : Int) + ((b.size + 8 : Nat) : Int))) else none) else some (l, (u : Int), (0 : Int))) = _
    rw [if_pos rfl, if_pos (by omega)]
    have hu2 : u + (b.size + 8) ≤ s.size := by clear hr; omega
    have hk2 : fs.length + 1 < k := by clear hr hlen; omega
    have hd2 : (ls s).drop (u + (b.size + 8)) = framesL fs ++ r := by
      have h1 : (ls s).drop (u + (b.size + 8)) = ((ls s).drop u).drop (b.size + 8) := (List.drop_drop ..).symm
      rw [h1, hd, framesL, List.append_assoc, List.drop_left' (by rw [frameL_len, ls_len])]
    have hl2 : (l ++ [b]).length + fs.length < 8796093022208 := by rw [List.length_append, List.length_singleton]; omega
    have hw : wrap64 ((u : Int) + ((b.size + 8 : Nat) : Int)) = ((u + (b.size + 8) : Nat) : Int) := by unfold wrap64; omega
    rw [hw]
    have hh := ih (u + (b.size + 8)) k (l ++ [b]) e r (fun x hx => hf x (List.mem_cons_of_mem _ hx)) hd2 hu2 hk2 hl2 hr
    rw [hh, List.append_assoc, List.singleton_append]
end Go.Proofs.YtkcooehlahifkaaDoor.P
