/- A view and its log, written and read. -/
import Derived.Test.YtokebimfflobbaaDoorPx4
import Derived.Test.YtokebimfflobbaaDoorPx7
import Derived.Test.YtokebimfflobbaaDoorPlainVC
namespace Go.Proofs.YtokebimfflobbaaDoor.P
open Go.RowKit Go.Proofs.YtokebimfflobbaaDoorW.PrintWords Go.Proofs.YtokebimfflobbaaDoorW.PrintLast Go.Proofs.YtokebimfflobbaaDoorW.PrintMore
set_option linter.unusedSimpArgs false
set_option linter.unusedVariables false
set_option maxRecDepth 100000
def tItems (log : List ByteArray) : List S58 := log.map fun s => ⟨4, 0, s⟩
theorem tItems_len (log : List ByteArray) : (tItems log).length = log.length := by simp [tItems]
theorem rdS2 (l : List ByteArray) (i : Nat) : rdOf ByteArray.empty l (i : Int) = l.getD i ByteArray.empty := rfl
theorem drop_rd2 (l : List ByteArray) (i : Nat) (h : i < l.length) : l.drop i = l.getD i ByteArray.empty :: l.drop (i + 1) := by
  rw [List.drop_eq_getElem_cons h]
  simp [List.getD_eq_getElem?_getD, List.getElem?_eq_getElem h]
theorem ftexts_loop (log : List ByteArray) (hl : log.length ≤ 1000) (d : Nat) : ∀ (i k : Nat) (acc : List S58), i + d = log.length → acc.length ≤ i → d < k →
    flush_texts.l0 k acc log (log.length : Int) (i : Int) = some (acc ++ tItems (log.drop i)) := by
  induction d with
  | zero =>
    intro i k acc hi ha hk
    obtain ⟨k, rfl⟩ : ∃ m, k = m + 1 := ⟨k - 1, by omega⟩
    simp only [flush_texts.l0]
    rw [if_neg (by omega), List.drop_of_length_le (by omega)]
    simp [tItems]
  | succ d ih =>
    intro i k acc hi ha hk
    obtain ⟨k, rfl⟩ : ∃ m, k = m + 1 := ⟨k - 1, by omega⟩
    have ew : wrap64 ((i : Int) + 1) = ((i + 1 : Nat) : Int) := by rw [wrap64_id] <;> omega
    simp only [flush_texts.l0]
    rw [if_pos (by omega), if_pos (by omega), if_pos (by omega), if_pos (by omega), rdS2, ew, ih (i + 1) k _ (by omega) (by simp; omega) (by omega), drop_rd2 log i (by omega), List.append_assoc]
    rfl
theorem ftexts_is (log : List ByteArray) (hl : log.length ≤ 1000) (k : Nat) (hk : log.length < k) : flush_texts.f k log = some (tItems log) := by
  unfold flush_texts.f
  have := ftexts_loop log hl log.length 0 k [] (by omega) (by simp) hk
  rw [List.drop_zero, List.nil_append] at this
  exact this
/-- How many bytes texts take. -/
def szs : List ByteArray → Nat
  | [] => 0
  | s :: r => s.size + 4 + szs r
theorem szs_le : ∀ (log : List ByteArray), (∀ s ∈ log, s.size ≤ 140737488351232) → szs log ≤ log.length * 140737488351236
  | [] => fun _ => by simp [szs]
  | s :: r => by
    intro h
    have h0 := h s (List.mem_cons_self ..)
    have := szs_le r (fun x hx => h x (List.mem_cons_of_mem _ hx))
    simp only [szs, List.length_cons]
    omega
theorem tItems_enc : ∀ (log : List ByteArray), (∀ s ∈ log, s.size ≤ 100000) → ∃ e, encAll (tItems log) = .ok e
  | [] => fun _ => ⟨[], rfl⟩
  | s :: r => by
    intro h
    have h0 := h s (List.mem_cons_self ..)
    obtain ⟨e, he⟩ := tItems_enc r (fun x hx => h x (List.mem_cons_of_mem _ hx))
    have h1 : encOne (⟨4, 0, s⟩ : S58) = .ok (beI (s.size : Int) 4 ++ bytesOf s) := by
      unfold encOne
      dsimp only
      rw [if_pos rfl, if_pos rfl, if_neg (by omega)]
    refine ⟨beI (s.size : Int) 4 ++ bytesOf s ++ e, ?_⟩
    show encAll (⟨4, 0, s⟩ :: tItems r) = _
    simp only [encAll, h1, he]
theorem szs_mem : ∀ (log : List ByteArray) (s : ByteArray), s ∈ log → s.size ≤ szs log
  | [], s => fun h => by cases h
  | x :: r, s => by
    intro h
    simp only [szs]
    rcases List.mem_cons.1 h with rfl | h
    · omega
    · have := szs_mem r s h
      omega
theorem tItems_wf (log : List ByteArray) (h : ∀ s ∈ log, s.size ≤ 140737488351232) : ∀ x ∈ tItems log, WfI x := by
  intro x hx
  unfold tItems at hx
  obtain ⟨s, hs, rfl⟩ := List.mem_map.1 hx
  exact ⟨by show (0 : Int) ≤ 0; decide, by show (0 : Int) < 18446744073709551616; decide, by show (-9223372036854775808 : Int) ≤ 4; decide, by show (4 : Int) ≤ 9223372036854775807; decide, h s hs⟩
theorem fenc_loop (hd : ByteArray) (hh : hd.size ≤ 140737488351232) (log : List ByteArray) (hs : ∀ s ∈ log, s.size ≤ 140737488351232) (hl : log.length ≤ 990) (d : Nat) : ∀ (i k z : Nat), i + d = log.length → z ≤ (i + 1) * 140737488351236 → d + 2020 < k →
    flush_Encode.l0 k log hd (z : Int) log (log.length : Int) (i : Int) = some (if 100000 < z + szs (log.drop i) then (⟨#[]⟩, 3) else encS (tItems (hd :: log))) := by
  induction d with
  | zero =>
    intro i k z hi hz hk
    obtain ⟨k, rfl⟩ : ∃ m, k = m + 1 := ⟨k - 1, by omega⟩
    simp only [flush_Encode.l0]
    rw [if_neg (by omega), List.drop_of_length_le (by omega)]
    rw [show z + szs [] = z from rfl]
    by_cases h : 100000 < z
    · rw [if_pos (by omega), if_pos h]
    · rw [if_neg (by omega), if_neg h, ftexts_is [hd] (by simp) k (by simp; omega), ftexts_is log (by omega) k (by omega)]
      simp only [Option.bind_some]
      rw [if_pos (by rw [tItems_len, tItems_len]; simp; omega)]
      rw [show tItems [hd] ++ tItems log = tItems (hd :: log) from rfl, encode_is (tItems (hd :: log)) (tItems_wf _ (by
        intro s h
        rcases List.mem_cons.1 h with rfl | h
        · exact hh
        · exact hs s h)) k (by omega)]
      rfl
  | succ d ih =>
    intro i k z hi hz hk
    obtain ⟨k, rfl⟩ : ∃ m, k = m + 1 := ⟨k - 1, by omega⟩
    have ew : wrap64 ((i : Int) + 1) = ((i + 1 : Nat) : Int) := by rw [wrap64_id] <;> omega
    have hsz : (log.getD i ByteArray.empty).size ≤ 140737488351232 := by
      refine hs _ ?_
      rw [List.getD_eq_getElem?_getD, List.getElem?_eq_getElem (show i < log.length by omega)]
      exact List.getElem_mem _
    have e1 : wrap64 (((log.getD i ByteArray.empty).size : Int) + 4) = (((log.getD i ByteArray.empty).size + 4 : Nat) : Int) := by rw [wrap64_id] <;> omega
    have e2 : wrap64 ((z : Int) + (((log.getD i ByteArray.empty).size + 4 : Nat) : Int)) = ((z + ((log.getD i ByteArray.empty).size + 4) : Nat) : Int) := by rw [wrap64_id] <;> omega
    simp only [flush_Encode.l0]
    rw [if_pos (by omega), if_pos (by omega), if_pos (by omega), rdS2, e1, e2, ew, ih (i + 1) k _ (by omega) (by omega) (by omega), drop_rd2 log i (by omega)]
    have e3 : z + ((log.getD i ByteArray.empty).size + 4) + szs (log.drop (i + 1)) = z + szs (log.getD i ByteArray.empty :: log.drop (i + 1)) := by
      simp only [szs]
      omega
    simp only [e3]
/-- What Encode answers. -/
def fencS (num : Int) (ms : List S47) (log : List ByteArray) : ByteArray × Int :=
  if ViewP num ms = true then (if 990 < log.length then (⟨#[]⟩, 3) else if 100000 < (encS (vItems num ms)).1.size + 4 + szs log then (⟨#[]⟩, 3) else encS (tItems ((encS (vItems num ms)).1 :: log))) else (⟨#[]⟩, 1)
theorem encS_ok2 {l : List S58} {m : List Int} (h : encAll l = .ok m) (hl : l.length ≤ 1000) : encS l = (strOfNums m, 0) := by
  unfold encS
  rw [if_neg (by omega), h]
theorem son_size2 (m : List Int) : (strOfNums m).size = m.length := by rw [← data_len, son_data, toU_length]
theorem encAll_len2 : ∀ (l : List S58) (m : List Int), encAll l = .ok m → m.length ≤ l.length * 100004 := by
  intro l
  induction l with
  | nil => intro m h; cases h; simp
  | cons x xs ih =>
    intro m h
    simp only [encAll] at h
    cases h1 : encOne x with
    | error e => rw [h1] at h; cases h
    | ok a =>
      rw [h1] at h
      cases h2 : encAll xs with
      | error e => rw [h2] at h; cases h
      | ok b =>
        rw [h2] at h
        cases h
        have i2 := ih b h2
        have := encOne_len h1
        rw [List.length_append, List.length_cons]
        omega
theorem fenc_is (num : Int) (ms : List S47) (log : List ByteArray) (hm : ms.length ≤ 4611686018427387904) (hl : log.length ≤ 4611686018427387904) (hs : ∀ s ∈ log, s.size ≤ 140737488351232) (k : Nat) (hk : ms.length + 4040 < k) : flush_Encode.f k num ms log = some (fencS num ms log) := by
  unfold flush_Encode.f fencS
  rw [venc_is num ms hm k (by omega)]
  simp only [Option.bind_some]
  by_cases h : ViewP num ms = true
  · obtain ⟨e, he, hv⟩ := vItems_enc h
    have hvl : (vItems num ms).length ≤ 15 := by
      obtain ⟨_, _, _, _, h5⟩ := viewP_parts h
      unfold vItems
      rw [List.length_cons, mItems_len]
      omega
    have hz := encAll_len2 _ _ hv
    have hsz := son_size2 (beI num 8 ++ e)
    rw [if_pos h, if_pos h, encS_ok2 hv (by omega)]
    dsimp only
    rw [if_pos rfl]
    by_cases h2 : 990 < log.length
    · rw [if_pos (by omega), if_pos h2]
    · rw [if_neg (by omega), if_neg h2, show wrap64 (((strOfNums (beI num 8 ++ e)).size : Int) + 4) = (((strOfNums (beI num 8 ++ e)).size + 4 : Nat) : Int) by rw [wrap64_id] <;> omega]
      have := fenc_loop (strOfNums (beI num 8 ++ e)) (by omega) log hs (by omega) log.length 0 k ((strOfNums (beI num 8 ++ e)).size + 4) (by omega) (by omega) (by omega)
      rw [List.drop_zero] at this
      exact this
  · rw [if_neg h, if_neg h]
    dsimp only
    rw [if_neg (by decide)]
end Go.Proofs.YtokebimfflobbaaDoor.P
