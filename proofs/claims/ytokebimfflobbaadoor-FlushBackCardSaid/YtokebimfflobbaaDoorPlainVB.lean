/- A view that is written is read as it was. -/
import Derived.Test.YtokebimfflobbaaDoorPx7
import Derived.Test.YtokebimfflobbaaDoorPlainVA
namespace Go.Proofs.YtokebimfflobbaaDoor.P
open Go.RowKit Go.Proofs.YtokebimfflobbaaDoorW.PrintWords Go.Proofs.YtokebimfflobbaaDoorW.PrintLast Go.Proofs.YtokebimfflobbaaDoorW.PrintMore
set_option linter.unusedSimpArgs false
set_option linter.unusedVariables false
set_option maxRecDepth 100000
theorem viewP_parts {num : Int} {ms : List S47} (h : ViewP num ms = true) : VR (-1) ms = true ∧ 1 ≤ num ∧ num ≤ 9007199254740991 ∧ 0 < ms.length ∧ ms.length ≤ 7 := by
  unfold ViewP at h
  simp only [Bool.and_eq_true, decide_eq_true_eq] at h
  obtain ⟨⟨⟨h1, h2⟩, h3⟩, h4⟩ := h
  refine ⟨h1, h2, h3, h4, ?_⟩
  rcases vr_len ms (-1) (by omega) h1 with h | h
  · omega
  · rw [h]; simp
def mPlain (ms : List S47) : List S58 := ms.flatMap fun m => [⟨1, m.f0, ⟨#[]⟩⟩, ⟨3, m.f1, ⟨#[]⟩⟩]
theorem mItems_plain : ∀ (ms : List S47), (∀ m ∈ ms, RM m.f0 m.f1) → mItems ms = mPlain ms
  | [] => fun _ => rfl
  | m :: r => by
    intro h
    have h0 := h m (List.mem_cons_self ..)
    unfold RM at h0
    have ih := mItems_plain r (fun x hx => h x (List.mem_cons_of_mem _ hx))
    unfold mItems mPlain at *
    rw [List.flatMap_cons, List.flatMap_cons, ih, wrapU (by omega) (by omega), wrapU (by omega) (by omega)]
theorem mPlain_kinds (ms : List S47) : (mPlain ms).map (·.f0) = (List.replicate ms.length [1, 3]).flatten := by
  induction ms with
  | nil => rfl
  | cons m r ih =>
    unfold mPlain at *
    rw [List.flatMap_cons, List.map_append, ih, List.length_cons, List.replicate_succ, List.flatten_cons]
    rfl
theorem encL (v : Int) : encOne (⟨3, v, ⟨#[]⟩⟩ : S58) = .ok (beI v 8) := by
  unfold encOne
  dsimp only
  rw [if_neg (by decide), if_pos (by decide), if_pos (by rw [toList_eq]), if_pos (.inl (by decide))]
  rfl
theorem encB (v : Int) (h0 : 0 ≤ v) (h1 : v < 256) : encOne (⟨1, v, ⟨#[]⟩⟩ : S58) = .ok (beI v 1) := by
  unfold encOne
  dsimp only
  rw [if_neg (by decide), if_pos (by decide), if_pos (by rw [toList_eq]), if_pos (.inr (by show v / 256 ^ 1 = 0; omega))]
  rfl
theorem mPlain_enc : ∀ (ms : List S47), (∀ m ∈ ms, RM m.f0 m.f1) → ∃ e, encAll (mPlain ms) = .ok e
  | [] => fun _ => ⟨[], rfl⟩
  | m :: r => by
    intro h
    have h0 := h m (List.mem_cons_self ..)
    unfold RM at h0
    obtain ⟨e, he⟩ := mPlain_enc r (fun x hx => h x (List.mem_cons_of_mem _ hx))
    unfold mPlain at *
    rw [List.flatMap_cons, encAll_append, he]
    simp only [encAll, encB m.f0 (by omega) (by omega), encL]
    exact ⟨_, rfl⟩
/-- The members that are read of items. -/
theorem vdec_loop (num : Int) (ms : List S47) (hms : ∀ m ∈ ms, RM m.f0 m.f1) (hl : ms.length ≤ 7) (x0 : S58) (d : Nat) : ∀ (i k : Nat), i + d = ms.length → d + 10 < k →
    view_Decode.l0 k (x0 :: mPlain ms) ((2 * i + 1 : Nat) : Int) num (ms.take i) = some (if ViewP num ms = true then (num, ms, 0) else (0, [], 10)) := by
  have hlen : (x0 :: mPlain ms).length = 2 * ms.length + 1 := by
    have := congrArg List.length (mPlain_kinds ms)
    rw [List.length_map] at this
    rw [List.length_cons, this]
    simp
    omega
  have hget : ∀ (ms : List S47) (i : Nat) (h : i < ms.length), (mPlain ms).getD (2 * i) z58 = ⟨1, ms[i].f0, ⟨#[]⟩⟩ ∧ (mPlain ms).getD (2 * i + 1) z58 = ⟨3, ms[i].f1, ⟨#[]⟩⟩ := by
    intro ms
    induction ms with
    | nil => intro i h; cases h
    | cons m r ih =>
      intro i h
      cases i with
      | zero => exact ⟨rfl, rfl⟩
      | succ i =>
        obtain ⟨a, b⟩ := ih i (by simpa using h)
        exact ⟨a, b⟩
  induction d with
  | zero =>
    intro i k hi hk
    obtain ⟨k, rfl⟩ : ∃ m, k = m + 1 := ⟨k - 1, by omega⟩
    simp only [view_Decode.l0]
    rw [if_neg (by omega), List.take_of_length_le (by omega), vright_is num ms (by omega) k (by omega)]
    simp only [Option.bind_some]
    by_cases h : ViewP num ms = true
    · rw [if_pos h, if_pos h]
    · rw [if_neg h, if_neg h]
  | succ d ih =>
    intro i k hi hk
    obtain ⟨k, rfl⟩ : ∃ m, k = m + 1 := ⟨k - 1, by omega⟩
    have e1 : wrap64 (((2 * i + 1 : Nat) : Int) + 1) = ((2 * i + 2 : Nat) : Int) := by rw [wrap64_id] <;> omega
    have e2 : wrap64 (((2 * i + 1 : Nat) : Int) + 2) = ((2 * (i + 1) + 1 : Nat) : Int) := by rw [wrap64_id] <;> omega
    have hil : i < ms.length := by omega
    obtain ⟨g1, g2⟩ := hget ms i hil
    have r1 : rd_T58 (x0 :: mPlain ms) ((2 * i + 1 : Nat) : Int) = ⟨1, ms[i].f0, ⟨#[]⟩⟩ := g1
    have r2 : rd_T58 (x0 :: mPlain ms) ((2 * i + 2 : Nat) : Int) = ⟨3, ms[i].f1, ⟨#[]⟩⟩ := g2
    have hm := hms ms[i] (List.getElem_mem hil)
    unfold RM at hm
    simp only [view_Decode.l0]
    rw [e1, e2, if_pos (by omega), if_pos (by omega), if_pos (by omega), if_pos (by omega), if_pos (by rw [List.length_take]; omega), r1, r2]
    dsimp only
    rw [wrap64_id (by omega) (by omega), wrap64_id (by omega) (by omega)]
    have := ih (i + 1) k (by omega) (by omega)
    rw [List.take_succ_eq_append_getElem hil] at this
    exact this
end Go.Proofs.YtokebimfflobbaaDoor.P
