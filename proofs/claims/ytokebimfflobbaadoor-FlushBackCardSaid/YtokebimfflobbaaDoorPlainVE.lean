/- What is read as a view is written as it stood. -/
import Derived.Test.YtokebimfflobbaaDoorPx7
import Derived.Test.YtokebimfflobbaaDoorPlainVD
namespace Go.Proofs.YtokebimfflobbaaDoor.P
open Go.RowKit Go.Proofs.YtokebimfflobbaaDoorW.PrintWords Go.Proofs.YtokebimfflobbaaDoorW.PrintLast Go.Proofs.YtokebimfflobbaaDoorW.PrintMore
set_option linter.unusedSimpArgs false
set_option linter.unusedVariables false
set_option maxRecDepth 100000
theorem vdec_loop2 (num : Int) (ms : List S47) (hms : ∀ m ∈ ms, ((0 ≤ m.f0 ∧ m.f0 < 256) ∧ 0 ≤ m.f1) ∧ m.f1 ≤ 9007199254740991) (hl : ms.length ≤ 1000) (x0 : S58) (d : Nat) : ∀ (i k : Nat), i + d = ms.length → d + 1010 < k →
    view_Decode.l0 k (x0 :: mPlain ms) ((2 * i + 1 : Nat) : Int) num (ms.take i) = some (if ViewP num ms = true then (num, ms, 0) else (0, [], 10)) := by
  have hlen : (x0 :: mPlain ms).length = 2 * ms.length + 1 := by rw [List.length_cons, mPlain_len]
  have hget : ∀ (ms : List S47) (i : Nat) (h : i < ms.length), (mPlain ms).getD (2 * i) z58 = ⟨1, ms[i].f0, ⟨#[]⟩⟩ ∧ (mPlain ms).getD (2 * i + 1) z58 = ⟨3, ms[i].f1, ⟨#[]⟩⟩ := by
    intro ms
    induction ms with
    | nil => intro i h; cases h
    | cons m r ih =>
      intro i h
      cases i with
      | zero => exact ⟨rfl, rfl⟩
      | succ i =>
        obtain ⟨a, b⟩ := ih i (by simpa using h)
        exact ⟨a, b⟩
  induction d with
  | zero =>
    intro i k hi hk
    obtain ⟨k, rfl⟩ : ∃ m, k = m + 1 := ⟨k - 1, by omega⟩
    simp only [view_Decode.l0]
    rw [if_neg (by omega), List.take_of_length_le (by omega), vright_is num ms (by omega) k (by omega)]
    simp only [Option.bind_some]
    by_cases h : ViewP num ms = true
    · rw [if_pos h, if_pos h]
    · rw [if_neg h, if_neg h]
  | succ d ih =>
    intro i k hi hk
    obtain ⟨k, rfl⟩ : ∃ m, k = m + 1 := ⟨k - 1, by omega⟩
    have e1 : wrap64 (((2 * i + 1 : Nat) : Int) + 1) = ((2 * i + 2 : Nat) : Int) := by rw [wrap64_id] <;> omega
    have e2 : wrap64 (((2 * i + 1 : Nat) : Int) + 2) = ((2 * (i + 1) + 1 : Nat) : Int) := by rw [wrap64_id] <;> omega
    have hil : i < ms.length := by omega
    obtain ⟨g1, g2⟩ := hget ms i hil
    have r1 : rd_T58 (x0 :: mPlain ms) ((2 * i + 1 : Nat) : Int) = ⟨1, ms[i].f0, ⟨#[]⟩⟩ := g1
    have r2 : rd_T58 (x0 :: mPlain ms) ((2 * i + 2 : Nat) : Int) = ⟨3, ms[i].f1, ⟨#[]⟩⟩ := g2
    have hm := hms ms[i] (List.getElem_mem hil)
    simp only [view_Decode.l0]
    rw [e1, e2, if_pos (by omega), if_pos (by omega), if_pos (by omega), if_pos (by omega), if_pos (by rw [List.length_take]; omega), r1, r2]
    dsimp only
    rw [wrap64_id (by omega) (by omega), wrap64_id (by omega) (by omega)]
    have := ih (i + 1) k (by omega) (by omega)
    rw [List.take_succ_eq_append_getElem hil] at this
    exact this
theorem vback (s : ByteArray) (hs : s.size ≤ 1000000000000000) (k : Nat) (hk : 8000 ≤ k) :
    (∃ num ms e, view_Decode.f k s = some (num, ms, 0) ∧ ViewP num ms = true ∧ encAll (vItems num ms) = .ok e ∧ s = strOfNums e) ∨ (∃ e, e ≠ 0 ∧ view_Decode.f k s = some (0, [], e)) := by
  unfold view_Decode.f
  rw [decode_is _ s (by decide) hs k (by omega)]
  simp only [Option.bind_some]
  by_cases h : (decodeS [108, 42, 98, 108] s).2 = 0
  case neg => exact .inr ⟨_, h, by rw [if_neg h]⟩
  obtain ⟨l, hd⟩ : ∃ l, decodeS [108, 42, 98, 108] s = (l, 0) := ⟨_, Prod.ext rfl h⟩
  rw [hd]
  dsimp only
  rw [if_pos rfl]
  unfold decodeS at hd
  rw [show parseS [108, 42, 98, 108] = some ([3], [1, 3]) by decide] at hd
  obtain ⟨m, e, hm, h1, h2, h3, h4, j, h5⟩ := enc_dec [1, 3] (by intro x hx; simp only [List.mem_cons, List.not_mem_nil, or_false] at hx; omega) 1000 [3] [] s l (by intro x hx; simp only [List.mem_cons, List.not_mem_nil, or_false] at hx; omega) hs hd
  rw [List.nil_append] at hm
  subst hm
  match l, h1, h3, h4, h5 with
  | [], _, _, _, h5 => simp at h5
  | x0 :: r, h1, h3, h4, h5 =>
    simp only [List.map_cons, List.cons_append, List.nil_append, List.cons.injEq] at h5
    obtain ⟨k0, kr⟩ := h5
    have h1' := h1
    simp only [encAll] at h1'
    cases g1 : encOne x0 with
    | error e1 => rw [g1] at h1'; cases h1'
    | ok a =>
      rw [g1] at h1'
      cases g2 : encAll r with
      | error e1 => rw [g2] at h1'; cases h1'
      | ok c =>
        obtain ⟨ms, q1, q2, q3⟩ := pairs_of j r c g2 (fun z hz => h3 z (List.mem_cons_of_mem _ hz)) kr
        have w0 := (h3 x0 (List.mem_cons_self ..)).1
        obtain ⟨p0, -⟩ := num_parts x0 a g1 (by rw [k0]; decide)
        obtain ⟨y0, num, y2⟩ := x0
        dsimp only at k0 p0 w0
        subst k0 p0 q2
        rw [List.length_cons, mPlain_len] at h4
        rw [cf_is _ (by rw [List.length_cons, mPlain_len]; omega)]
        simp only [Option.bind_some]
        by_cases hg : (⟨3, num, ⟨#[]⟩⟩ :: mPlain ms : List S58).any grt = true
        · exact .inr ⟨10, by decide, by rw [if_pos hg]⟩
        rw [if_neg hg, if_pos (by rw [List.length_cons]; omega)]
        have hall : ∀ x ∈ (⟨3, num, ⟨#[]⟩⟩ :: mPlain ms : List S58), x.f1 ≤ 9007199254740991 := by
          intro x hx
          by_cases hc : x.f1 ≤ 9007199254740991
          · exact hc
          · exact absurd (List.any_eq_true.2 ⟨x, hx, by unfold grt; simp; omega⟩) hg
        have hnum : num ≤ 9007199254740991 := hall _ (List.mem_cons_self ..)
        have hmem : ∀ m ∈ ms, ((0 ≤ m.f0 ∧ m.f0 < 256) ∧ 0 ≤ m.f1) ∧ m.f1 ≤ 9007199254740991 := by
          intro m hm
          refine ⟨q3 m hm, ?_⟩
          exact hall ⟨3, m.f1, ⟨#[]⟩⟩ (List.mem_cons_of_mem _ (List.mem_flatMap.2 ⟨m, hm, by simp⟩))
        rw [show rd_T58 (⟨3, num, ⟨#[]⟩⟩ :: mPlain ms) 0 = ⟨3, num, ⟨#[]⟩⟩ from rfl]
        dsimp only
        rw [wrap64_id (by omega) (by omega)]
        have hloop := vdec_loop2 num ms hmem (by omega) ⟨3, num, ⟨#[]⟩⟩ ms.length 0 k (by omega) (by omega)
        have hloop' : view_Decode.l0 k (⟨3, num, ⟨#[]⟩⟩ :: mPlain ms) 1 num [] = some (if ViewP num ms = true then (num, ms, 0) else (0, [], 10)) := hloop
        rw [hloop']
        by_cases hv : ViewP num ms = true
        · rw [if_pos hv]
          exact .inl ⟨num, ms, e, rfl, hv, by rw [vItems_of hv]; exact h1, ba_eq (by rw [h2, son_data])⟩
        · rw [if_neg hv]
          exact .inr ⟨10, by decide, rfl⟩
end Go.Proofs.YtokebimfflobbaaDoor.P
