/- A written view and log are read as they were; the law FlushOwns. -/
import Derived.Test.YtokebimfflobbaaDoorPx12
import Derived.Test.YtokebimfflobbaaDoorPlainFE
import Derived.Test.YtokebimfflobbaaDoorPlainCS
namespace Go.Proofs.YtokebimfflobbaaDoor.P
open Go.RowKit Go.Proofs.YtokebimfflobbaaDoorW.PrintWords Go.Proofs.YtokebimfflobbaaDoorW.PrintLast Go.Proofs.YtokebimfflobbaaDoorW.PrintMore
set_option linter.unusedSimpArgs false
set_option linter.unusedVariables false
set_option maxRecDepth 100000
theorem tItems_kinds (log : List ByteArray) : (tItems log).map (·.f0) = (List.replicate log.length [4]).flatten := by
  induction log with
  | nil => rfl
  | cons s r ih =>
    rw [List.length_cons, List.replicate_succ, List.flatten_cons, ← ih]
    rfl
theorem fdec_loop (num : Int) (ms : List S47) (log : List ByteArray) (hl : log.length ≤ 1000) (d : Nat) : ∀ (i k : Nat), i + d = log.length → d < k →
    flush_Decode.l0 k (log.take i) (tItems log) ((tItems log).length : Int) (i : Int) num ms = some (num, ms, log, 0) := by
  have hget : ∀ (i : Nat), i < log.length → (rd_T58 (tItems log) (i : Int)).f2 = log[i]! := by
    intro i h
    unfold rd_T58 tItems
    rw [show ((i : Int)).toNat = i from rfl, List.getD_eq_getElem?_getD, List.getElem?_map, List.getElem?_eq_getElem h]
    simp [h]
  have hlen := tItems_len log
  induction d with
  | zero =>
    intro i k hi hk
    obtain ⟨k, rfl⟩ : ∃ m, k = m + 1 := ⟨k - 1, by omega⟩
    simp only [flush_Decode.l0]
    rw [if_neg (by omega), List.take_of_length_le (by omega)]
  | succ d ih =>
    intro i k hi hk
    obtain ⟨k, rfl⟩ : ∃ m, k = m + 1 := ⟨k - 1, by omega⟩
    have ew : wrap64 ((i : Int) + 1) = ((i + 1 : Nat) : Int) := by rw [wrap64_id] <;> omega
    have hil : i < log.length := by omega
    simp only [flush_Decode.l0]
    rw [if_pos (by omega), if_pos (by omega), if_pos (by omega), if_pos (by rw [List.length_take]; omega), hget i hil, ew]
    have := ih (i + 1) k (by omega) (by omega)
    rw [List.take_succ_eq_append_getElem hil] at this
    rw [getElem!_pos log i hil]
    exact this
theorem fdec_enc {num : Int} {ms : List S47} {log : List ByteArray} {s : ByteArray} (h : fencS num ms log = (s, 0)) (hs : ∀ x ∈ log, x.size ≤ 140737488351232) (k : Nat) (hk : 8000 ≤ k) : flush_Decode.f k s = some (num, ms, log, 0) := by
  unfold fencS at h
  by_cases hv : ViewP num ms = true
  case neg => rw [if_neg hv] at h; exact absurd (show (1 : Int) = 0 from congrArg Prod.snd h) (by decide)
  rw [if_pos hv] at h
  by_cases h2 : 990 < log.length
  · rw [if_pos h2] at h; exact absurd (show (3 : Int) = 0 from congrArg Prod.snd h) (by decide)
  rw [if_neg h2] at h
  obtain ⟨e, he, hve⟩ := vItems_enc hv
  have hvl : (vItems num ms).length ≤ 15 := by
    obtain ⟨_, _, _, _, h5⟩ := viewP_parts hv
    unfold vItems
    rw [List.length_cons, mItems_len]
    omega
  have hz := encAll_len2 _ _ hve
  have hsz := son_size2 (beI num 8 ++ e)
  rw [encS_ok2 hve (by omega)] at h
  dsimp only at h
  split at h
  · exact absurd (show (3 : Int) = 0 from congrArg Prod.snd h) (by decide)
  rename_i h3
  have hsm : ∀ x ∈ strOfNums (beI num 8 ++ e) :: log, x.size ≤ 100000 := by
    intro x hx
    rcases List.mem_cons.1 hx with rfl | hx
    · omega
    · have := szs_mem log x hx
      omega
  obtain ⟨m, hm⟩ := tItems_enc _ hsm
  have htl : (tItems (strOfNums (beI num 8 ++ e) :: log)).length ≤ 991 := by rw [tItems_len, List.length_cons]; omega
  rw [encS_ok2 hm (by omega)] at h
  obtain rfl := (Prod.mk.inj h).1
  have hmz := encAll_len2 _ _ hm
  have hmsz := son_size2 m
  have hw := tItems_wf (strOfNums (beI num 8 ++ e) :: log) (fun x hx => by have := hsm x hx; omega)
  have hd : decodeS [116, 42, 116] (strOfNums m) = (tItems (strOfNums (beI num 8 ++ e) :: log), 0) := by
    unfold decodeS
    rw [show parseS [116, 42, 116] = some ([4], [4]) by decide]
    dsimp only
    obtain ⟨e2, he2⟩ := tItems_enc log (fun x hx => hsm x (List.mem_cons_of_mem _ hx))
    have h1 : encOne (⟨4, 0, strOfNums (beI num 8 ++ e)⟩ : S58) = .ok (beI ((strOfNums (beI num 8 ++ e)).size : Int) 4 ++ bytesOf (strOfNums (beI num 8 ++ e))) := by
      have := hsm _ (List.mem_cons_self ..)
      unfold encOne
      dsimp only
      rw [if_pos rfl, if_pos rfl, if_neg (by omega)]
    have hme : m = (beI ((strOfNums (beI num 8 ++ e)).size : Int) 4 ++ bytesOf (strOfNums (beI num 8 ++ e))) ++ e2 := by
      have h5 : encAll (⟨4, 0, strOfNums (beI num 8 ++ e)⟩ :: tItems log) = .ok m := hm
      simp only [encAll, h1, he2] at h5
      exact (Except.ok.inj h5).symm
    have d1 := dec_enc [4] (toU e2) [⟨4, 0, strOfNums (beI num 8 ++ e)⟩] (beI ((strOfNums (beI num 8 ++ e)).size : Int) 4 ++ bytesOf (strOfNums (beI num 8 ++ e))) 1000 [] [] (strOfNums m) (fun x hx => hw x (by
      obtain rfl := List.mem_singleton.1 hx
      exact List.mem_cons_self ..)) (by simp only [encAll, h1, List.append_nil]) (show 1 ≤ 1000 by decide) (by rw [son_data, hme, toU_append])
    have d2 := dec_enc_star [4] (by decide) log.length (tItems log) e2 999 [⟨4, 0, strOfNums (beI num 8 ++ e)⟩] ⟨(toU e2).toArray⟩ (fun x hx => hw x (List.mem_cons_of_mem _ hx)) he2 (tItems_kinds log) (by rw [tItems_len]; omega) rfl
    exact d1.trans d2
  unfold flush_Decode.f
  rw [decode_is _ _ (by decide) (by omega) k (by omega)]
  simp only [Option.bind_some]
  rw [hd]
  dsimp only
  rw [if_pos rfl, if_pos (by rw [tItems_len, List.length_cons]; omega)]
  rw [show (rd_T58 (tItems (strOfNums (beI num 8 ++ e) :: log)) 0).f2 = strOfNums (beI num 8 ++ e) from rfl, vdec_enc hv he (by omega) k (by omega)]
  simp only [Option.bind_some]
  rw [if_pos trivial, if_neg (by rw [tItems_len, List.length_cons]; omega), if_pos (by rw [tItems_len, List.length_cons]; omega)]
  exact fdec_loop num ms log (by omega) log.length 0 k (by omega) (by omega)
theorem views_loop (num : Int) (ms : List S47) (hl : ms.length ≤ 4611686018427387904) (d : Nat) : ∀ (i k : Nat), i + d = ms.length → d < k → carillonlaw19_views.l0 k (i : Int) num ms num ms = some true := by
  induction d with
  | zero =>
    intro i k hi hk
    obtain ⟨k, rfl⟩ : ∃ m, k = m + 1 := ⟨k - 1, by omega⟩
    simp only [carillonlaw19_views.l0]
    rw [if_neg (by omega)]
  | succ d ih =>
    intro i k hi hk
    obtain ⟨k, rfl⟩ : ∃ m, k = m + 1 := ⟨k - 1, by omega⟩
    have ew : wrap64 ((i : Int) + 1) = ((i + 1 : Nat) : Int) := by rw [wrap64_id] <;> omega
    simp only [carillonlaw19_views.l0]
    rw [if_pos (by omega), if_pos (by omega), if_pos (by omega), if_neg (by simp), ew]
    exact ih (i + 1) k (by omega) (by omega)
theorem views_is (num : Int) (ms : List S47) (hl : ms.length ≤ 4611686018427387904) (k : Nat) (hk : ms.length < k) : carillonlaw19_views.f k num ms num ms = some true := by
  unfold carillonlaw19_views.f
  rw [if_pos rfl, if_pos rfl]
  exact views_loop num ms hl ms.length 0 k (by omega) hk
theorem encS_bad (l : List S58) (h : (encS l).2 ≠ 0) : (encS l).1 = ⟨#[]⟩ := by
  unfold encS at *
  by_cases h4 : 1000 < l.length
  · rw [if_pos h4]
  · rw [if_neg h4] at h ⊢
    cases hx : encAll l with
    | error e => rfl
    | ok m => rw [hx] at h; exact absurd rfl h
theorem fencS_bad {num : Int} {ms : List S47} {log : List ByteArray} (hs : ∀ x ∈ log, x.size ≤ 140737488351232) (h : (fencS num ms log).2 ≠ 0) : (fencS num ms log).1 = ⟨#[]⟩ := by
  unfold fencS at *
  split
  · rename_i h1
    rw [if_pos h1] at h
    split
    · rfl
    · rename_i h2
      rw [if_neg h2] at h
      split
      · rfl
      · rename_i h3
        rw [if_neg h3] at h
        exact encS_bad _ h
  · rfl
end Go.Proofs.YtokebimfflobbaaDoor.P
