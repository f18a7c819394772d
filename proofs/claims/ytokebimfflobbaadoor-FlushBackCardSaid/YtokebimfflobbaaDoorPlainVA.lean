/- Views, told plainly: what is right, and what is written. -/
import Derived.Test.YtokebimfflobbaaDoorPx3
import Derived.Test.YtokebimfflobbaaDoorPx4
import Derived.Test.YtokebimfflobbaaDoorPlainCG
namespace Go.Proofs.YtokebimfflobbaaDoor.P
open Go.RowKit Go.Proofs.YtokebimfflobbaaDoorW.PrintWords Go.Proofs.YtokebimfflobbaaDoorW.PrintLast Go.Proofs.YtokebimfflobbaaDoorW.PrintMore
set_option linter.unusedSimpArgs false
set_option linter.unusedVariables false
set_option maxRecDepth 100000
def RM (n l : Int) : Prop := 0 ≤ n ∧ n < 7 ∧ 1 ≤ l ∧ l ≤ 9007199254740991
instance (n l : Int) : Decidable (RM n l) := by unfold RM; infer_instance
theorem rm_is (n l : Int) : view_RightMember.f n l = some (decide (RM n l)) := by
  unfold view_RightMember.f RM
  by_cases h1 : 0 ≤ n <;> by_cases h2 : n < 7 <;> by_cases h3 : 1 ≤ l <;> simp [h1, h2, h3]
def VR : Int → List S47 → Bool
  | _, [] => true
  | last, m :: r => decide (RM m.f0 m.f1) && decide (last < m.f0) && VR m.f0 r
def ViewP (num : Int) (ms : List S47) : Bool := VR (-1) ms && decide (1 ≤ num) && decide (num ≤ 9007199254740991) && decide (0 < ms.length)
theorem rdM (l : List S47) (i : Nat) (h : i < l.length) : rd_T47 l (i : Int) = l[i] := by
  unfold rd_T47
  rw [show ((i : Int)).toNat = i from rfl, List.getD_eq_getElem?_getD, List.getElem?_eq_getElem h]
  rfl
theorem vright_loop (num : Int) (ms : List S47) (hl : ms.length ≤ 4611686018427387904) (d : Nat) : ∀ (i k : Nat) (last : Int), i + d = ms.length → d < k →
    view_Right.l0 k last ms (ms.length : Int) (i : Int) num ms = some (VR last (ms.drop i) && decide (1 ≤ num) && decide (num ≤ 9007199254740991) && decide (0 < ms.length)) := by
  induction d with
  | zero =>
    intro i k last hi hk
    obtain ⟨k, rfl⟩ : ∃ m, k = m + 1 := ⟨k - 1, by omega⟩
    simp only [view_Right.l0]
    rw [if_neg (by omega), List.drop_of_length_le (by omega)]
    simp only [VR, Bool.true_and]
    by_cases h1 : 1 ≤ num <;> by_cases h2 : num ≤ 9007199254740991 <;> simp [h1, h2]
  | succ d ih =>
    intro i k last hi hk
    obtain ⟨k, rfl⟩ : ∃ m, k = m + 1 := ⟨k - 1, by omega⟩
    have ew : wrap64 ((i : Int) + 1) = ((i + 1 : Nat) : Int) := by rw [wrap64_id] <;> omega
    simp only [view_Right.l0]
    rw [if_pos (by omega), if_pos (by omega), if_pos (by omega), rdM ms i (by omega), ew, rm_is, List.drop_eq_getElem_cons (show i < ms.length by omega)]
    simp only [Option.bind_some, VR]
    by_cases h1 : RM ms[i].f0 ms[i].f1
    · rw [if_pos (by simpa using h1)]
      by_cases h2 : last < ms[i].f0
      · rw [if_neg (by omega), ih (i + 1) k _ (by omega) (by omega)]
        simp [h1, h2]
      · rw [if_pos (by omega)]
        simp [h2]
    · rw [if_neg (by simpa using h1)]
      simp [h1]
theorem vright_is (num : Int) (ms : List S47) (hl : ms.length ≤ 4611686018427387904) (k : Nat) (hk : ms.length < k) : view_Right.f k num ms = some (ViewP num ms) := by
  unfold view_Right.f ViewP
  have := vright_loop num ms hl ms.length 0 k (-1) (by omega) hk
  rw [List.drop_zero] at this
  exact this
/-- A right view has at most seven members. -/
theorem vr_len : ∀ (ms : List S47) (last : Int), -1 ≤ last → VR last ms = true → (ms.length : Int) ≤ 6 - last ∨ ms = []
  | [], _ => fun _ _ => .inr rfl
  | m :: r, last => by
    intro hl h
    simp only [VR, Bool.and_eq_true, decide_eq_true_eq] at h
    obtain ⟨⟨h1, h2⟩, h3⟩ := h
    unfold RM at h1
    left
    rcases vr_len r m.f0 (by omega) h3 with h4 | h4
    · rw [List.length_cons]; omega
    · rw [h4]; simp; omega
theorem vr_all : ∀ (ms : List S47) (last : Int), VR last ms = true → ∀ m ∈ ms, RM m.f0 m.f1
  | [], _ => fun _ m hm => by cases hm
  | m :: r, last => by
    intro h x hx
    simp only [VR, Bool.and_eq_true, decide_eq_true_eq] at h
    rcases List.mem_cons.1 hx with rfl | hx
    · exact h.1.1
    · exact vr_all r m.f0 h.2 x hx
theorem wrapU {a : Int} (h0 : 0 ≤ a) (h1 : a < 18446744073709551616) : IntKind.u64.wrap a = a := by
  show a % 18446744073709551616 = a
  omega
def mItems (ms : List S47) : List S58 := ms.flatMap fun m => [⟨1, IntKind.u64.wrap m.f0, ⟨#[]⟩⟩, ⟨3, IntKind.u64.wrap m.f1, ⟨#[]⟩⟩]
def vItems (num : Int) (ms : List S47) : List S58 := ⟨3, IntKind.u64.wrap num, ⟨#[]⟩⟩ :: mItems ms
theorem mItems_len (ms : List S47) : (mItems ms).length = 2 * ms.length := by
  induction ms with
  | nil => rfl
  | cons m r ih =>
    unfold mItems at *
    rw [List.flatMap_cons, List.length_append, ih]
    simp
    omega
theorem mItems_wf (ms : List S47) : ∀ x ∈ mItems ms, WfI x := by
  intro x hx
  unfold mItems at hx
  obtain ⟨m, hm, hx⟩ := List.mem_flatMap.1 hx
  have w : ∀ a : Int, 0 ≤ IntKind.u64.wrap a ∧ IntKind.u64.wrap a < 18446744073709551616 := by
    intro a
    show 0 ≤ a % 18446744073709551616 ∧ a % 18446744073709551616 < 18446744073709551616
    omega
  have z : (⟨#[]⟩ : ByteArray).size = 0 := rfl
  simp only [List.mem_cons, List.not_mem_nil, or_false] at hx
  rcases hx with rfl | rfl
  · exact ⟨(w _).1, (w _).2, by show (-9223372036854775808 : Int) ≤ 1; decide, by show (1 : Int) ≤ 9223372036854775807; decide, by show (0 : Nat) ≤ _; omega⟩
  · exact ⟨(w _).1, (w _).2, by show (-9223372036854775808 : Int) ≤ 3; decide, by show (3 : Int) ≤ 9223372036854775807; decide, by show (0 : Nat) ≤ _; omega⟩
theorem vItems_wf (num : Int) (ms : List S47) : ∀ x ∈ vItems num ms, WfI x := by
  intro x hx
  rcases List.mem_cons.1 hx with rfl | hx
  · have : 0 ≤ num % 18446744073709551616 ∧ num % 18446744073709551616 < 18446744073709551616 := by omega
    exact ⟨this.1, this.2, by show (-9223372036854775808 : Int) ≤ 3; decide, by show (3 : Int) ≤ 9223372036854775807; decide, by show (0 : Nat) ≤ _; omega⟩
  · exact mItems_wf ms x hx
theorem venc_loop (ms : List S47) (hl : ms.length ≤ 1000) (d : Nat) : ∀ (i k : Nat) (acc : List S58), i + d = ms.length → acc.length ≤ 2 * i + 1 → (∀ x ∈ acc, WfI x) → d + 1012 < k →
    view_Encode.l0 k acc ms (ms.length : Int) (i : Int) = some (encS (acc ++ mItems (ms.drop i))) := by
  induction d with
  | zero =>
    intro i k acc hi ha hw hk
    obtain ⟨k, rfl⟩ : ∃ m, k = m + 1 := ⟨k - 1, by omega⟩
    simp only [view_Encode.l0]
    rw [if_neg (by omega), List.drop_of_length_le (by omega), encode_is acc hw k (by omega)]
    simp [mItems]
  | succ d ih =>
    intro i k acc hi ha hw hk
    obtain ⟨k, rfl⟩ : ∃ m, k = m + 1 := ⟨k - 1, by omega⟩
    have ew : wrap64 ((i : Int) + 1) = ((i + 1 : Nat) : Int) := by rw [wrap64_id] <;> omega
    simp only [view_Encode.l0]
    rw [if_pos (by omega), if_pos (by omega), if_pos (by omega), rdM ms i (by omega), ew]
    simp only [Option.bind_some]
    rw [if_pos (by simp; omega), ih (i + 1) k _ (by omega) (by simp; omega) ?_ (by omega)]
    · have e : mItems (ms.drop i) = [⟨1, IntKind.u64.wrap ms[i].f0, ⟨#[]⟩⟩, ⟨3, IntKind.u64.wrap ms[i].f1, ⟨#[]⟩⟩] ++ mItems (ms.drop (i + 1)) := by
        unfold mItems
        rw [List.drop_eq_getElem_cons (show i < ms.length by omega), List.flatMap_cons]
      rw [e, List.append_assoc]
    · intro x hx
      rcases List.mem_append.1 hx with hx | hx
      · exact hw x hx
      · exact mItems_wf [ms[i]] x (by simpa [mItems] using hx)
theorem venc_is (num : Int) (ms : List S47) (hl : ms.length ≤ 4611686018427387904) (k : Nat) (hk : ms.length + 2020 < k) : view_Encode.f k num ms = some (if ViewP num ms = true then encS (vItems num ms) else (⟨#[]⟩, 1)) := by
  unfold view_Encode.f
  rw [vright_is num ms hl k (by omega)]
  simp only [Option.bind_some]
  by_cases h : ViewP num ms = true
  · rw [if_pos h, if_pos h]
    have hv : VR (-1) ms = true := by
      unfold ViewP at h
      simp only [Bool.and_eq_true] at h
      exact h.1.1.1
    have hlen : ms.length ≤ 7 := by
      rcases vr_len ms (-1) (by omega) hv with h | h
      · omega
      · rw [h]; simp
    have := venc_loop ms (by omega) ms.length 0 k [⟨3, IntKind.u64.wrap num, ⟨#[]⟩⟩] (by omega) (by simp) (by
      intro x hx
      obtain rfl := List.mem_singleton.1 hx
      exact vItems_wf num [] _ (List.mem_cons_self ..)) (by omega)
    rw [List.drop_zero] at this
    exact this
  · rw [if_neg h, if_neg h]
end Go.Proofs.YtokebimfflobbaaDoor.P
