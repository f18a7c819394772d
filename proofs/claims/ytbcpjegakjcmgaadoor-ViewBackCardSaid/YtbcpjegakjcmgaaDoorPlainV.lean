/- What is written is read by a shape with a star. -/
import Derived.Test.YtbcpjegakjcmgaaDoorPx10
import Derived.Test.YtbcpjegakjcmgaaDoorPx11
import Derived.Test.YtbcpjegakjcmgaaDoorPx13
import Derived.Test.YtbcpjegakjcmgaaDoorPx2
import Derived.Test.YtbcpjegakjcmgaaDoorPx5
import Derived.Test.YtbcpjegakjcmgaaDoorPx8
import Derived.Test.YtbcpjegakjcmgaaDoorPlainC
namespace Go.Proofs.YtbcpjegakjcmgaaDoor.P
open Go.RowKit Go.Proofs.YtbcpjegakjcmgaaDoorW.PrintWords Go.Proofs.YtbcpjegakjcmgaaDoorW.PrintLast Go.Proofs.YtbcpjegakjcmgaaDoorW.PrintMore
set_option linter.unusedSimpArgs false
set_option linter.unusedVariables false
set_option maxRecDepth 100000
theorem decS_star (b : List Int) (n : Nat) (out : List S50) (s : ByteArray) (hs : s.toList ≠ ([] : List UInt8)) (hb : b ≠ []) : decS b n [] out s = decS b n b out s := by
  cases b with
  | nil => exact absurd rfl hb
  | cons x xs =>
    cases n with
    | zero => simp only [decS, nextK]; rw [if_neg hs]
    | succ n => simp only [decS, nextK]; rw [if_neg hs]
theorem decS_done (b : List Int) (n : Nat) (out : List S50) (s : ByteArray) (hs : s.toList = ([] : List UInt8)) : decS b n [] out s = (out, 0) := by
  cases b with
  | nil =>
    cases n with
    | zero => simp only [decS, nextK]; rw [if_pos hs]
    | succ n => simp only [decS, nextK]; rw [if_pos hs]
  | cons x xs =>
    cases n with
    | zero => simp only [decS, nextK]; rw [if_pos hs]
    | succ n => simp only [decS, nextK]; rw [if_pos hs]
theorem dec_enc_star (b : List Int) (hb : b ≠ []) (j : Nat) : ∀ (l : List S50) (m : List Int) (n : Nat) (out : List S50) (s : ByteArray), (∀ x ∈ l, WfI x) → encAll l = .ok m → l.map (·.f0) = (List.replicate j b).flatten → l.length ≤ n → s.data.toList = toU m →
    decS b n [] out s = (out ++ l, 0) := by
  induction j with
  | zero =>
    intro l m n out s hw h hk hl hs
    have e : l = [] := by
      have : l.map (·.f0) = [] := by rw [hk]; simp
      exact List.map_eq_nil_iff.1 this
    subst e
    cases h
    rw [decS_done b n out s (by rw [toList_eq, hs]; rfl), List.append_nil]
  | succ j ih =>
    intro l m n out s hw h hk hl hs
    rw [List.replicate_succ, List.flatten_cons] at hk
    obtain ⟨l1, l2, rfl, k1, k2⟩ := List.map_eq_append_iff.1 hk
    rw [encAll_append] at h
    cases h1 : encAll l1 with
    | error e => rw [h1] at h; cases h
    | ok m1 =>
      rw [h1] at h
      cases h2 : encAll l2 with
      | error e => rw [h2] at h; cases h
      | ok m2 =>
        rw [h2] at h
        cases h
        rw [List.length_append] at hl
        have hne : toU m1 ≠ [] := by
          cases l1 with
          | nil => exact absurd k1.symm hb
          | cons x xs =>
            simp only [encAll] at h1
            cases g1 : encOne x with
            | error e => rw [g1] at h1; cases h1
            | ok a =>
              rw [g1] at h1
              have hp := encOne_pos g1
              cases g2 : encAll xs with
              | error e => rw [g2] at h1; cases h1
              | ok c =>
                rw [g2] at h1
                cases h1
                intro e
                have := congrArg List.length e
                rw [toU_length, List.length_append, List.length_nil] at this
                omega
        rw [toU_append] at hs
        have hsn : s.toList ≠ ([] : List UInt8) := by
          rw [toList_eq, hs]
          intro e
          exact hne (List.append_eq_nil_iff.1 e).1
        rw [decS_star b n out s hsn hb]
        have := dec_enc b (toU m2) l1 m1 n [] out s (fun x hx => hw x (List.mem_append_left _ hx)) h1 (by omega) hs
        rw [List.append_nil, k1] at this
        rw [this, ih l2 m2 (n - l1.length) (out ++ l1) _ (fun x hx => hw x (List.mem_append_right _ hx)) h2 k2 (by omega) rfl, List.append_assoc]
def RM (n l : Int) : Prop := 0 ≤ n ∧ n < 7 ∧ 1 ≤ l ∧ l ≤ 9007199254740991
instance (n l : Int) : Decidable (RM n l) := by unfold RM; infer_instance
theorem rm_is (n l : Int) : view_RightMember.f n l = some (decide (RM n l)) := by
  unfold view_RightMember.f RM
  by_cases h1 : 0 ≤ n <;> by_cases h2 : n < 7 <;> by_cases h3 : 1 ≤ l <;> simp [h1, h2, h3]
def VR : Int → List S38 → Bool
  | _, [] => true
  | last, m :: r => decide (RM m.f0 m.f1) && decide (last < m.f0) && VR m.f0 r
def ViewP (num : Int) (ms : List S38) : Bool := VR (-1) ms && decide (1 ≤ num) && decide (num ≤ 9007199254740991) && decide (0 < ms.length)
theorem rdM (l : List S38) (i : Nat) (h : i < l.length) : rd_T38 l (i : Int) = l[i] := by
  unfold rd_T38
  rw [show ((i : Int)).toNat = i from rfl, List.getD_eq_getElem?_getD, List.getElem?_eq_getElem h]
  rfl
theorem vright_loop (num : Int) (ms : List S38) (hl : ms.length ≤ 4611686018427387904) (d : Nat) : ∀ (i k : Nat) (last : Int), i + d = ms.length → d < k →
    view_Right.l0 k last ms (ms.length : Int) (i : Int) num ms = some (VR last (ms.drop i) && decide (1 ≤ num) && decide (num ≤ 9007199254740991) && decide (0 < ms.length)) := by
  induction d with
  | zero =>
    intro i k last hi hk
    obtain ⟨k, rfl⟩ : ∃ m, k = m + 1 := ⟨k - 1, by omega⟩
    simp only [view_Right.l0]
    rw [if_neg (by omega), List.drop_of_length_le (by omega)]
    simp only [VR, Bool.true_and]
    by_cases h1 : 1 ≤ num <;> by_cases h2 : num ≤ 9007199254740991 <;> simp [h1, h2]
  | succ d ih =>
    intro i k last hi hk
    obtain ⟨k, rfl⟩ : ∃ m, k = m + 1 := ⟨k - 1, by omega⟩
    have ew : wrap64 ((i : Int) + 1) = ((i + 1 : Nat) : Int) := by rw [wrap64_id] <;> omega
    simp only [view_Right.l0]
    rw [if_pos (by omega), if_pos (by omega), if_pos (by omega), rdM ms i (by omega), ew, rm_is, List.drop_eq_getElem_cons (show i < ms.length by omega)]
    simp only [Option.bind_some, VR]
    by_cases h1 : RM ms[i].f0 ms[i].f1
    · rw [if_pos (by simpa using h1)]
      by_cases h2 : last < ms[i].f0
      · rw [if_neg (by omega), ih (i + 1) k _ (by omega) (by omega)]
        simp [h1, h2]
      · rw [if_pos (by omega)]
        simp [h2]
    · rw [if_neg (by simpa using h1)]
      simp [h1]
theorem vright_is (num : Int) (ms : List S38) (hl : ms.length ≤ 4611686018427387904) (k : Nat) (hk : ms.length < k) : view_Right.f k num ms = some (ViewP num ms) := by
  unfold view_Right.f ViewP
  have := vright_loop num ms hl ms.length 0 k (-1) (by omega) hk
  rw [List.drop_zero] at this
  exact this
/-- A right view has at most seven members. -/
theorem vr_len : ∀ (ms : List S38) (last : Int), -1 ≤ last → VR last ms = true → (ms.length : Int) ≤ 6 - last ∨ ms = []
  | [], _ => fun _ _ => .inr rfl
  | m :: r, last => by
    intro hl h
    simp only [VR, Bool.and_eq_true, decide_eq_true_eq] at h
    obtain ⟨⟨h1, h2⟩, h3⟩ := h
    unfold RM at h1
    left
    rcases vr_len r m.f0 (by omega) h3 with h4 | h4
    · rw [List.length_cons]; omega
    · rw [h4]; simp; omega
theorem vr_all : ∀ (ms : List S38) (last : Int), VR last ms = true → ∀ m ∈ ms, RM m.f0 m.f1
  | [], _ => fun _ m hm => by cases hm
  | m :: r, last => by
    intro h x hx
    simp only [VR, Bool.and_eq_true, decide_eq_true_eq] at h
    rcases List.mem_cons.1 hx with rfl | hx
    · exact h.1.1
    · exact vr_all r m.f0 h.2 x hx
theorem wrapU {a : Int} (h0 : 0 ≤ a) (h1 : a < 18446744073709551616) : IntKind.u64.wrap a = a := by
  show a % 18446744073709551616 = a
  omega
def mItems (ms : List S38) : List S50 := ms.flatMap fun m => [⟨1, IntKind.u64.wrap m.f0, ⟨#[]⟩⟩, ⟨3, IntKind.u64.wrap m.f1, ⟨#[]⟩⟩]
def vItems (num : Int) (ms : List S38) : List S50 := ⟨3, IntKind.u64.wrap num, ⟨#[]⟩⟩ :: mItems ms
theorem mItems_len (ms : List S38) : (mItems ms).length = 2 * ms.length := by
  induction ms with
  | nil => rfl
  | cons m r ih =>
    unfold mItems at *
    rw [List.flatMap_cons, List.length_append, ih]
    simp
    omega
theorem mItems_wf (ms : List S38) : ∀ x ∈ mItems ms, WfI x := by
  intro x hx
  unfold mItems at hx
  obtain ⟨m, hm, hx⟩ := List.mem_flatMap.1 hx
  have w : ∀ a : Int, 0 ≤ IntKind.u64.wrap a ∧ IntKind.u64.wrap a < 18446744073709551616 := by
    intro a
    show 0 ≤ a % 18446744073709551616 ∧ a % 18446744073709551616 < 18446744073709551616
    omega
  have z : (⟨#[]⟩ : ByteArray).size = 0 := rfl
  simp only [List.mem_cons, List.not_mem_nil, or_false] at hx
  rcases hx with rfl | rfl
  · exact ⟨(w _).1, (w _).2, by show (-9223372036854775808 : Int) ≤ 1; decide, by show (1 : Int) ≤ 9223372036854775807; decide, by show (0 : Nat) ≤ _; omega⟩
  · exact ⟨(w _).1, (w _).2, by show (-9223372036854775808 : Int) ≤ 3; decide, by show (3 : Int) ≤ 9223372036854775807; decide, by show (0 : Nat) ≤ _; omega⟩
theorem vItems_wf (num : Int) (ms : List S38) : ∀ x ∈ vItems num ms, WfI x := by
  intro x hx
  rcases List.mem_cons.1 hx with rfl | hx
  · have : 0 ≤ num % 18446744073709551616 ∧ num % 18446744073709551616 < 18446744073709551616 := by omega
    exact ⟨this.1, this.2, by show (-9223372036854775808 : Int) ≤ 3; decide, by show (3 : Int) ≤ 9223372036854775807; decide, by show (0 : Nat) ≤ _; omega⟩
  · exact mItems_wf ms x hx
theorem venc_loop (ms : List S38) (hl : ms.length ≤ 1000) (d : Nat) : ∀ (i k : Nat) (acc : List S50), i + d = ms.length → acc.length ≤ 2 * i + 1 → (∀ x ∈ acc, WfI x) → d + 1012 < k →
    view_Encode.l0 k acc ms (ms.length : Int) (i : Int) = some (encS (acc ++ mItems (ms.drop i))) := by
  induction d with
  | zero =>
    intro i k acc hi ha hw hk
    obtain ⟨k, rfl⟩ : ∃ m, k = m + 1 := ⟨k - 1, by omega⟩
    simp only [view_Encode.l0]
    rw [if_neg (by omega), List.drop_of_length_le (by omega), encode_is acc hw k (by omega)]
    simp [mItems]
  | succ d ih =>
    intro i k acc hi ha hw hk
    obtain ⟨k, rfl⟩ : ∃ m, k = m + 1 := ⟨k - 1, by omega⟩
    have ew : wrap64 ((i : Int) + 1) = ((i + 1 : Nat) : Int) := by rw [wrap64_id] <;> omega
    simp only [view_Encode.l0]
    rw [if_pos (by omega), if_pos (by omega), if_pos (by omega), rdM ms i (by omega), ew]
    simp only [Option.bind_some]
    rw [if_pos (by simp; omega), ih (i + 1) k _ (by omega) (by simp; omega) ?_ (by omega)]
    · have e : mItems (ms.drop i) = [⟨1, IntKind.u64.wrap ms[i].f0, ⟨#[]⟩⟩, ⟨3, IntKind.u64.wrap ms[i].f1, ⟨#[]⟩⟩] ++ mItems (ms.drop (i + 1)) := by
        unfold mItems
        rw [List.drop_eq_getElem_cons (show i < ms.length by omega), List.flatMap_cons]
      rw [e, List.append_assoc]
    · intro x hx
      rcases List.mem_append.1 hx with hx | hx
      · exact hw x hx
      · exact mItems_wf [ms[i]] x (by simpa [mItems] using hx)
theorem venc_is (num : Int) (ms : List S38) (hl : ms.length ≤ 4611686018427387904) (k : Nat) (hk : ms.length + 2020 < k) : view_Encode.f k num ms = some (if ViewP num ms = true then encS (vItems num ms) else (⟨#[]⟩, 1)) := by
  unfold view_Encode.f
  rw [vright_is num ms hl k (by omega)]
  simp only [Option.bind_some]
  by_cases h : ViewP num ms = true
  · rw [if_pos h, if_pos h]
    have hv : VR (-1) ms = true := by
      unfold ViewP at h
      simp only [Bool.and_eq_true] at h
      exact h.1.1.1
    have hlen : ms.length ≤ 7 := by
      rcases vr_len ms (-1) (by omega) hv with h | h
      · omega
      · rw [h]; simp
    have := venc_loop ms (by omega) ms.length 0 k [⟨3, IntKind.u64.wrap num, ⟨#[]⟩⟩] (by omega) (by simp) (by
      intro x hx
      obtain rfl := List.mem_singleton.1 hx
      exact vItems_wf num [] _ (List.mem_cons_self ..)) (by omega)
    rw [List.drop_zero] at this
    exact this
  · rw [if_neg h, if_neg h]
theorem viewP_parts {num : Int} {ms : List S38} (h : ViewP num ms = true) : VR (-1) ms = true ∧ 1 ≤ num ∧ num ≤ 9007199254740991 ∧ 0 < ms.length ∧ ms.length ≤ 7 := by
  unfold ViewP at h
  simp only [Bool.and_eq_true, decide_eq_true_eq] at h
  obtain ⟨⟨⟨h1, h2⟩, h3⟩, h4⟩ := h
  refine ⟨h1, h2, h3, h4, ?_⟩
  rcases vr_len ms (-1) (by omega) h1 with h | h
  · omega
  · rw [h]; simp
def mPlain (ms : List S38) : List S50 := ms.flatMap fun m => [⟨1, m.f0, ⟨#[]⟩⟩, ⟨3, m.f1, ⟨#[]⟩⟩]
theorem mItems_plain : ∀ (ms : List S38), (∀ m ∈ ms, RM m.f0 m.f1) → mItems ms = mPlain ms
  | [] => fun _ => rfl
  | m :: r => by
    intro h
    have h0 := h m (List.mem_cons_self ..)
    unfold RM at h0
    have ih := mItems_plain r (fun x hx => h x (List.mem_cons_of_mem _ hx))
    unfold mItems mPlain at *
    rw [List.flatMap_cons, List.flatMap_cons, ih, wrapU (by omega) (by omega), wrapU (by omega) (by omega)]
theorem mPlain_kinds (ms : List S38) : (mPlain ms).map (·.f0) = (List.replicate ms.length [1, 3]).flatten := by
  induction ms with
  | nil => rfl
  | cons m r ih =>
    unfold mPlain at *
    rw [List.flatMap_cons, List.map_append, ih, List.length_cons, List.replicate_succ, List.flatten_cons]
    rfl
theorem encL (v : Int) : encOne (⟨3, v, ⟨#[]⟩⟩ : S50) = .ok (beI v 8) := by
  unfold encOne
  dsimp only
  rw [if_neg (by decide), if_pos (by decide), if_pos (by rw [toList_eq]), if_pos (.inl (by decide))]
  rfl
theorem encB (v : Int) (h0 : 0 ≤ v) (h1 : v < 256) : encOne (⟨1, v, ⟨#[]⟩⟩ : S50) = .ok (beI v 1) := by
  unfold encOne
  dsimp only
  rw [if_neg (by decide), if_pos (by decide), if_pos (by rw [toList_eq]), if_pos (.inr (by show v / 256 ^ 1 = 0; omega))]
  rfl
theorem mPlain_enc : ∀ (ms : List S38), (∀ m ∈ ms, RM m.f0 m.f1) → ∃ e, encAll (mPlain ms) = .ok e
  | [] => fun _ => ⟨[], rfl⟩
  | m :: r => by
    intro h
    have h0 := h m (List.mem_cons_self ..)
    unfold RM at h0
    obtain ⟨e, he⟩ := mPlain_enc r (fun x hx => h x (List.mem_cons_of_mem _ hx))
    unfold mPlain at *
    rw [List.flatMap_cons, encAll_append, he]
    simp only [encAll, encB m.f0 (by omega) (by omega), encL]
    exact ⟨_, rfl⟩
/-- The members that are read of items. -/
theorem vdec_loop (num : Int) (ms : List S38) (hms : ∀ m ∈ ms, RM m.f0 m.f1) (hl : ms.length ≤ 7) (x0 : S50) (d : Nat) : ∀ (i k : Nat), i + d = ms.length → d + 10 < k →
    view_Decode.l0 k (x0 :: mPlain ms) ((2 * i + 1 : Nat) : Int) num (ms.take i) = some (if ViewP num ms = true then (num, ms, 0) else (0, [], 10)) := by
  have hlen : (x0 :: mPlain ms).length = 2 * ms.length + 1 := by
    have := congrArg List.length (mPlain_kinds ms)
    rw [List.length_map] at this
    rw [List.length_cons, this]
    simp
    omega
  have hget : ∀ (ms : List S38) (i : Nat) (h : i < ms.length), (mPlain ms).getD (2 * i) z50 = ⟨1, ms[i].f0, ⟨#[]⟩⟩ ∧ (mPlain ms).getD (2 * i + 1) z50 = ⟨3, ms[i].f1, ⟨#[]⟩⟩ := by
    intro ms
    induction ms with
    | nil => intro i h; cases h
    | cons m r ih =>
      intro i h
      cases i with
      | zero => exact ⟨rfl, rfl⟩
      | succ i =>
        obtain ⟨a, b⟩ := ih i (by simpa using h)
        exact ⟨a, b⟩
  induction d with
  | zero =>
    intro i k hi hk
    obtain ⟨k, rfl⟩ : ∃ m, k = m + 1 := ⟨k - 1, by omega⟩
    simp only [view_Decode.l0]
    rw [if_neg (by omega), List.take_of_length_le (by omega), vright_is num ms (by omega) k (by omega)]
    simp only [Option.bind_some]
    by_cases h : ViewP num ms = true
    · rw [if_pos h, if_pos h]
    · rw [if_neg h, if_neg h]
  | succ d ih =>
    intro i k hi hk
    obtain ⟨k, rfl⟩ : ∃ m, k = m + 1 := ⟨k - 1, by omega⟩
    have e1 : wrap64 (((2 * i + 1 : Nat) : Int) + 1) = ((2 * i + 2 : Nat) : Int) := by rw [wrap64_id] <;> omega
    have e2 : wrap64 (((2 * i + 1 : Nat) : Int) + 2) = ((2 * (i + 1) + 1 : Nat) : Int) := by rw [wrap64_id] <;> omega
    have hil : i < ms.length := by omega
    obtain ⟨g1, g2⟩ := hget ms i hil
    have r1 : rd_T50 (x0 :: mPlain ms) ((2 * i + 1 : Nat) : Int) = ⟨1, ms[i].f0, ⟨#[]⟩⟩ := g1
    have r2 : rd_T50 (x0 :: mPlain ms) ((2 * i + 2 : Nat) : Int) = ⟨3, ms[i].f1, ⟨#[]⟩⟩ := g2
    have hm := hms ms[i] (List.getElem_mem hil)
    unfold RM at hm
    simp only [view_Decode.l0]
    rw [e1, e2, if_pos (by omega), if_pos (by omega), if_pos (by omega), if_pos (by omega), if_pos (by rw [List.length_take]; omega), r1, r2]
    dsimp only
    rw [wrap64_id (by omega) (by omega), wrap64_id (by omega) (by omega)]
    have := ih (i + 1) k (by omega) (by omega)
    rw [List.take_succ_eq_append_getElem hil] at this
    exact this
theorem cf_is (l : List S50) (h : l.length < 4611686018427387904) : api_Item_22.f l (.func (.func 23) #[] #[]) = some (l.any grt) := by
  show (if _ ∧ _ then some (l.any grt) else none) = _
  rw [if_pos ⟨rfl, h⟩]
theorem mPlain_len (ms : List S38) : (mPlain ms).length = 2 * ms.length := by
  have := congrArg List.length (mPlain_kinds ms)
  rw [List.length_map] at this
  rw [this]
  simp
  omega
theorem vItems_of {num : Int} {ms : List S38} (h : ViewP num ms = true) : vItems num ms = ⟨3, num, ⟨#[]⟩⟩ :: mPlain ms := by
  obtain ⟨h1, h2, h3, _⟩ := viewP_parts h
  unfold vItems
  rw [wrapU (by omega) (by omega), mItems_plain ms (vr_all ms _ h1)]
theorem vItems_enc {num : Int} {ms : List S38} (h : ViewP num ms = true) : ∃ e, encAll (mPlain ms) = .ok e ∧ encAll (vItems num ms) = .ok (beI num 8 ++ e) := by
  obtain ⟨h1, h2, h3, _⟩ := viewP_parts h
  obtain ⟨e, he⟩ := mPlain_enc ms (vr_all ms _ h1)
  refine ⟨e, he, ?_⟩
  rw [vItems_of h]
  simp only [encAll, encL, he]
theorem vdec_enc {num : Int} {ms : List S38} (h : ViewP num ms = true) {e : List Int} (he : encAll (mPlain ms) = .ok e) (hz : (strOfNums (beI num 8 ++ e)).size ≤ 1000000000000000) (k : Nat) (hk : 6100 ≤ k) : view_Decode.f k (strOfNums (beI num 8 ++ e)) = some (num, ms, 0) := by
  obtain ⟨h1, h2, h3, h4, h5⟩ := viewP_parts h
  have hall := vr_all ms _ h1
  have hw : ∀ x ∈ vItems num ms, WfI x := vItems_wf num ms
  rw [vItems_of h] at hw
  have hd : decodeS [108, 42, 98, 108] (strOfNums (beI num 8 ++ e)) = (⟨3, num, ⟨#[]⟩⟩ :: mPlain ms, 0) := by
    unfold decodeS
    rw [show parseS [108, 42, 98, 108] = some ([3], [1, 3]) by decide]
    dsimp only
    have d1 := dec_enc [1, 3] (toU e) [⟨3, num, ⟨#[]⟩⟩] (beI num 8) 1000 [] [] (strOfNums (beI num 8 ++ e)) (fun x hx => hw x (by
      obtain rfl := List.mem_singleton.1 hx
      exact List.mem_cons_self ..)) (by simp only [encAll, encL, List.append_nil]) (show 1 ≤ 1000 by decide) (by rw [son_data, toU_append])
    have d2 := dec_enc_star [1, 3] (by decide) ms.length (mPlain ms) e 999 [⟨3, num, ⟨#[]⟩⟩] ⟨(toU e).toArray⟩ (fun x hx => hw x (List.mem_cons_of_mem _ hx)) he (mPlain_kinds ms) (by rw [mPlain_len]; omega) rfl
    exact d1.trans d2
  have hg : (⟨3, num, ⟨#[]⟩⟩ :: mPlain ms : List S50).any grt = false := by
    rw [List.any_eq_false]
    intro x hx
    have : x.f1 ≤ 9007199254740991 := by
      rcases List.mem_cons.1 hx with rfl | hx
      · exact h3
      · unfold mPlain at hx
        obtain ⟨m, hm, hx⟩ := List.mem_flatMap.1 hx
        have hr := hall m hm
        unfold RM at hr
        simp only [List.mem_cons, List.not_mem_nil, or_false] at hx
        rcases hx with rfl | rfl
        · show m.f0 ≤ _; omega
        · show m.f1 ≤ _; omega
    unfold grt
    simp
    omega
  unfold view_Decode.f
  rw [decode_is _ _ (by decide) hz k (by omega)]
  simp only [Option.bind_some]
  rw [hd]
  dsimp only
  rw [if_pos rfl, cf_is _ (by rw [List.length_cons, mPlain_len]; omega), hg]
  simp only [Option.bind_some]
  rw [if_neg (by decide), if_pos (by rw [List.length_cons]; omega)]
  rw [show rd_T50 (⟨3, num, ⟨#[]⟩⟩ :: mPlain ms) 0 = ⟨3, num, ⟨#[]⟩⟩ from rfl]
  dsimp only
  rw [wrap64_id (by omega) (by omega)]
  have := vdec_loop num ms hall h5 ⟨3, num, ⟨#[]⟩⟩ ms.length 0 k (by omega) (by omega)
  rw [if_pos h] at this
  exact this
theorem num_parts (x : S50) (a : List Int) (hx : encOne x = .ok a) (h4 : x.f0 ≠ 4) : x.f2 = ⟨#[]⟩ ∧ (x.f0 = 1 → x.f1 / 256 = 0) := by
  unfold encOne at hx
  rw [if_neg h4] at hx
  split at hx
  · split at hx
    · rename_i g1 g2
      split at hx
      · rename_i g3
        refine ⟨ba_nil g2, fun e1 => ?_⟩
        rcases g3 with g3 | g3
        · rw [e1] at g3; exact absurd g3 (by decide)
        · rw [e1] at g3; simpa [widthI] using g3
      · cases hx
    · cases hx
  · cases hx
theorem text_parts (x : S50) (a : List Int) (hx : encOne x = .ok a) (h4 : x.f0 = 4) : x.f1 = 0 := by
  unfold encOne at hx
  rw [if_pos h4] at hx
  split at hx
  · assumption
  · cases hx
/-- Items of a star's kinds are a list of members. -/
theorem pairs_of (j : Nat) : ∀ (l : List S50) (e : List Int), encAll l = .ok e → (∀ x ∈ l, WfI x) → l.map (·.f0) = (List.replicate j [1, 3]).flatten →
    ∃ ms : List S38, ms.length = j ∧ l = mPlain ms ∧ ∀ m ∈ ms, (0 ≤ m.f0 ∧ m.f0 < 256) ∧ 0 ≤ m.f1 := by
  induction j with
  | zero =>
    intro l e _ _ hk
    have : l = [] := List.map_eq_nil_iff.1 (by rw [hk]; simp)
    subst this
    exact ⟨[], rfl, rfl, fun m h => by cases h⟩
  | succ j ih =>
    intro l e he hw hk
    rw [List.replicate_succ, List.flatten_cons] at hk
    match l, hk, he, hw with
    | [], hk, _, _ => simp at hk
    | [x], hk, _, _ => simp at hk
    | x :: y :: r, hk, he, hw =>
      simp only [List.map_cons, List.cons_append, List.nil_append, List.cons.injEq] at hk
      obtain ⟨kx, ky, kr⟩ := hk
      simp only [encAll] at he
      cases g1 : encOne x with
      | error e1 => rw [g1] at he; cases he
      | ok a =>
        rw [g1] at he
        cases g2 : encOne y with
        | error e1 => rw [g2] at he; cases he
        | ok b =>
          rw [g2] at he
          cases g3 : encAll r with
          | error e1 => rw [g3] at he; cases he
          | ok c =>
            obtain ⟨ms, h1, h2, h3⟩ := ih r c g3 (fun z hz => hw z (by simp [hz])) kr
            obtain ⟨px, qx⟩ := num_parts x a g1 (by rw [kx]; decide)
            obtain ⟨py, qy⟩ := num_parts y b g2 (by rw [ky]; decide)
            have wx := (hw x (by simp)).1
            have wy := (hw y (by simp)).1
            have qx' := qx kx
            refine ⟨⟨x.f1, y.f1⟩ :: ms, by simp [h1], ?_, ?_⟩
            · obtain ⟨x0, x1, x2⟩ := x
              obtain ⟨y0, y1, y2⟩ := y
              dsimp only at kx ky px py
              subst kx ky px py h2
              rfl
            · intro m hm
              rcases List.mem_cons.1 hm with rfl | hm
              · exact ⟨⟨wx, by show x.f1 < 256; omega⟩, wy⟩
              · exact h3 m hm
theorem vdec_loop2 (num : Int) (ms : List S38) (hms : ∀ m ∈ ms, ((0 ≤ m.f0 ∧ m.f0 < 256) ∧ 0 ≤ m.f1) ∧ m.f1 ≤ 9007199254740991) (hl : ms.length ≤ 1000) (x0 : S50) (d : Nat) : ∀ (i k : Nat), i + d = ms.length → d + 1010 < k →
    view_Decode.l0 k (x0 :: mPlain ms) ((2 * i + 1 : Nat) : Int) num (ms.take i) = some (if ViewP num ms = true then (num, ms, 0) else (0, [], 10)) := by
  have hlen : (x0 :: mPlain ms).length = 2 * ms.length + 1 := by rw [List.length_cons, mPlain_len]
  have hget : ∀ (ms : List S38) (i : Nat) (h : i < ms.length), (mPlain ms).getD (2 * i) z50 = ⟨1, ms[i].f0, ⟨#[]⟩⟩ ∧ (mPlain ms).getD (2 * i + 1) z50 = ⟨3, ms[i].f1, ⟨#[]⟩⟩ := by
    intro ms
    induction ms with
    | nil => intro i h; cases h
    | cons m r ih =>
      intro i h
      cases i with
      | zero => exact ⟨rfl, rfl⟩
      | succ i =>
        obtain ⟨a, b⟩ := ih i (by simpa using h)
        exact ⟨a, b⟩
  induction d with
  | zero =>
    intro i k hi hk
    obtain ⟨k, rfl⟩ : ∃ m, k = m + 1 := ⟨k - 1, by omega⟩
    simp only [view_Decode.l0]
    rw [if_neg (by omega), List.take_of_length_le (by omega), vright_is num ms (by omega) k (by omega)]
    simp only [Option.bind_some]
    by_cases h : ViewP num ms = true
    · rw [if_pos h, if_pos h]
    · rw [if_neg h, if_neg h]
  | succ d ih =>
    intro i k hi hk
    obtain ⟨k, rfl⟩ : ∃ m, k = m + 1 := ⟨k - 1, by omega⟩
    have e1 : wrap64 (((2 * i + 1 : Nat) : Int) + 1) = ((2 * i + 2 : Nat) : Int) := by rw [wrap64_id] <;> omega
    have e2 : wrap64 (((2 * i + 1 : Nat) : Int) + 2) = ((2 * (i + 1) + 1 : Nat) : Int) := by rw [wrap64_id] <;> omega
    have hil : i < ms.length := by omega
    obtain ⟨g1, g2⟩ := hget ms i hil
    have r1 : rd_T50 (x0 :: mPlain ms) ((2 * i + 1 : Nat) : Int) = ⟨1, ms[i].f0, ⟨#[]⟩⟩ := g1
    have r2 : rd_T50 (x0 :: mPlain ms) ((2 * i + 2 : Nat) : Int) = ⟨3, ms[i].f1, ⟨#[]⟩⟩ := g2
    have hm := hms ms[i] (List.getElem_mem hil)
    simp only [view_Decode.l0]
    rw [e1, e2, if_pos (by omega), if_pos (by omega), if_pos (by omega), if_pos (by omega), if_pos (by rw [List.length_take]; omega), r1, r2]
    dsimp only
    rw [wrap64_id (by omega) (by omega), wrap64_id (by omega) (by omega)]
    have := ih (i + 1) k (by omega) (by omega)
    rw [List.take_succ_eq_append_getElem hil] at this
    exact this
theorem vback (s : ByteArray) (hs : s.size ≤ 1000000000000000) (k : Nat) (hk : 8000 ≤ k) :
    (∃ num ms e, view_Decode.f k s = some (num, ms, 0) ∧ ViewP num ms = true ∧ encAll (vItems num ms) = .ok e ∧ s = strOfNums e) ∨ (∃ e, e ≠ 0 ∧ view_Decode.f k s = some (0, [], e)) := by
  unfold view_Decode.f
  rw [decode_is _ s (by decide) hs k (by omega)]
  simp only [Option.bind_some]
  by_cases h : (decodeS [108, 42, 98, 108] s).2 = 0
  case neg => exact .inr ⟨_, h, by rw [if_neg h]⟩
  obtain ⟨l, hd⟩ : ∃ l, decodeS [108, 42, 98, 108] s = (l, 0) := ⟨_, Prod.ext rfl h⟩
  rw [hd]
  dsimp only
  rw [if_pos rfl]
  unfold decodeS at hd
  rw [show parseS [108, 42, 98, 108] = some ([3], [1, 3]) by decide] at hd
  obtain ⟨m, e, hm, h1, h2, h3, h4, j, h5⟩ := enc_dec [1, 3] (by intro x hx; simp only [List.mem_cons, List.not_mem_nil, or_false] at hx; omega) 1000 [3] [] s l (by intro x hx; simp only [List.mem_cons, List.not_mem_nil, or_false] at hx; omega) hs hd
  rw [List.nil_append] at hm
  subst hm
  match l, h1, h3, h4, h5 with
  | [], _, _, _, h5 => simp at h5
  | x0 :: r, h1, h3, h4, h5 =>
    simp only [List.map_cons, List.cons_append, List.nil_append, List.cons.injEq] at h5
    obtain ⟨k0, kr⟩ := h5
    have h1' := h1
    simp only [encAll] at h1'
    cases g1 : encOne x0 with
    | error e1 => rw [g1] at h1'; cases h1'
    | ok a =>
      rw [g1] at h1'
      cases g2 : encAll r with
      | error e1 => rw [g2] at h1'; cases h1'
      | ok c =>
        obtain ⟨ms, q1, q2, q3⟩ := pairs_of j r c g2 (fun z hz => h3 z (List.mem_cons_of_mem _ hz)) kr
        have w0 := (h3 x0 (List.mem_cons_self ..)).1
        obtain ⟨p0, -⟩ := num_parts x0 a g1 (by rw [k0]; decide)
        obtain ⟨y0, num, y2⟩ := x0
        dsimp only at k0 p0 w0
        subst k0 p0 q2
        rw [List.length_cons, mPlain_len] at h4
        rw [cf_is _ (by rw [List.length_cons, mPlain_len]; omega)]
        simp only [Option.bind_some]
        by_cases hg : (⟨3, num, ⟨#[]⟩⟩ :: mPlain ms : List S50).any grt = true
        · exact .inr ⟨10, by decide, by rw [if_pos hg]⟩
        rw [if_neg hg, if_pos (by rw [List.length_cons]; omega)]
        have hall : ∀ x ∈ (⟨3, num, ⟨#[]⟩⟩ :: mPlain ms : List S50), x.f1 ≤ 9007199254740991 := by
          intro x hx
          by_cases hc : x.f1 ≤ 9007199254740991
          · exact hc
          · exact absurd (List.any_eq_true.2 ⟨x, hx, by unfold grt; simp; omega⟩) hg
        have hnum : num ≤ 9007199254740991 := hall _ (List.mem_cons_self ..)
        have hmem : ∀ m ∈ ms, ((0 ≤ m.f0 ∧ m.f0 < 256) ∧ 0 ≤ m.f1) ∧ m.f1 ≤ 9007199254740991 := by
          intro m hm
          refine ⟨q3 m hm, ?_⟩
          exact hall ⟨3, m.f1, ⟨#[]⟩⟩ (List.mem_cons_of_mem _ (List.mem_flatMap.2 ⟨m, hm, by simp⟩))
        rw [show rd_T50 (⟨3, num, ⟨#[]⟩⟩ :: mPlain ms) 0 = ⟨3, num, ⟨#[]⟩⟩ from rfl]
        dsimp only
        rw [wrap64_id (by omega) (by omega)]
        have hloop := vdec_loop2 num ms hmem (by omega) ⟨3, num, ⟨#[]⟩⟩ ms.length 0 k (by omega) (by omega)
        have hloop' : view_Decode.l0 k (⟨3, num, ⟨#[]⟩⟩ :: mPlain ms) 1 num [] = some (if ViewP num ms = true then (num, ms, 0) else (0, [], 10)) := hloop
        rw [hloop']
        by_cases hv : ViewP num ms = true
        · rw [if_pos hv]
          exact .inl ⟨num, ms, e, rfl, hv, by rw [vItems_of hv]; exact h1, ba_eq (by rw [h2, son_data])⟩
        · rw [if_neg hv]
          exact .inr ⟨10, by decide, rfl⟩
abbrev VM := S38
theorem rrm_is (n l : Int) : carillonref12_RightMember.f n l = some (decide (RM n l)) := rm_is n l
theorem rright_loop (num : Int) (ms : List VM) (hl : ms.length ≤ 4611686018427387904) (d : Nat) : ∀ (i k : Nat) (last : Int), i + d = ms.length → d < k → (i = 0 → last = -1) → (∀ h : 0 < i, ∃ h' : i - 1 < ms.length, last = (ms[i - 1]).f0) →
    carillonref12_Right.l0 k (i : Int) num ms = some (VR last (ms.drop i)) := by
  induction d with
  | zero =>
    intro i k last hi hk h0 h1
    obtain ⟨k, rfl⟩ : ∃ m, k = m + 1 := ⟨k - 1, by omega⟩
    simp only [carillonref12_Right.l0]
    rw [if_neg (by omega), List.drop_of_length_le (by omega)]
    rfl
  | succ d ih =>
    intro i k last hi hk h0 h1
    obtain ⟨k, rfl⟩ : ∃ m, k = m + 1 := ⟨k - 1, by omega⟩
    have hlt : i < ms.length := by omega
    have ew : wrap64 ((i : Int) + 1) = ((i + 1 : Nat) : Int) := by unfold wrap64; omega
    have hnext := ih (i + 1) k (ms[i]).f0 (by omega) (by omega) (by omega) (fun _ => ⟨by omega, by simp⟩)
    simp only [carillonref12_Right.l0]
    rw [if_pos (by omega), if_pos (by omega), rdM ms i hlt, ew, rrm_is, List.drop_eq_getElem_cons hlt]
    simp only [Option.bind_some, VR]
    by_cases h : RM (ms[i]).f0 (ms[i]).f1
    · rw [if_pos (by simpa using h)]
      by_cases hz : i = 0
      · have hl0 := h0 hz
        have hr := h
        unfold RM at hr
        rw [if_neg (by omega), hnext]
        simp only [h, decide_true, Bool.true_and]
        rw [decide_eq_true (show last < (ms[i]).f0 by omega), Bool.true_and]
      · obtain ⟨h', hl0⟩ := h1 (by omega)
        have e1 : wrap64 ((i : Int) - 1) = ((i - 1 : Nat) : Int) := by unfold wrap64; omega
        rw [if_pos (by omega), e1, if_pos (by omega), if_pos (by omega), rdM ms (i - 1) h', ← hl0]
        by_cases hc : (ms[i]).f0 ≤ last
        · rw [if_pos hc, decide_eq_false (show ¬ (last < (ms[i]).f0) by omega)]
          simp
        · rw [if_neg hc, hnext, decide_eq_true (show last < (ms[i]).f0 by omega)]
          simp [h]
    · rw [if_neg (by simpa using h)]
      simp [h]
theorem rright_is (num : Int) (ms : List VM) (hl : ms.length ≤ 4611686018427387904) (k : Nat) (hk : ms.length < k) : carillonref12_Right.f k num ms = some (ViewP num ms) := by
  unfold carillonref12_Right.f ViewP
  by_cases h1 : num < 1
  · rw [if_pos h1, decide_eq_false (show ¬ (1 ≤ num) by omega)]
    simp
  rw [if_neg h1]
  by_cases h2 : num > 9007199254740991
  · rw [if_pos h2, decide_eq_false (show ¬ (num ≤ 9007199254740991) by omega)]
    simp
  rw [if_neg h2]
  by_cases h3 : (ms.length : Int) < 1
  · rw [if_pos h3, decide_eq_false (show ¬ (0 < ms.length) by omega)]
    simp
  rw [if_neg h3]
  by_cases h4 : (ms.length : Int) > 7
  · rw [if_pos h4]
    have : VR (-1) ms = false := by
      cases hv : VR (-1) ms with
      | false => rfl
      | true =>
        rcases vr_len ms (-1) (by omega) hv with h | h
        · omega
        · rw [h] at h4; simp at h4
    rw [this]
    rfl
  · rw [if_neg h4]
    have := rright_loop num ms hl ms.length 0 k (-1) (by omega) hk (fun _ => rfl) (fun h => absurd h (by omega))
    rw [List.drop_zero] at this
    rw [show carillonref12_Right.l0 k 0 num ms = _ from this]
    rw [decide_eq_true (show 1 ≤ num by omega), decide_eq_true (show num ≤ 9007199254740991 by omega), decide_eq_true (show 0 < ms.length by omega)]
    simp
theorem rvenc_loop (num : Int) (ms : List VM) (hl : ms.length ≤ 1000) (d : Nat) : ∀ (i k : Nat) (acc : List S50), i + d = ms.length → acc.length ≤ 2 * i + 1 → (∀ x ∈ acc, WfI x) → d + 1012 < k →
    carillonref12_Encode.l0 k acc (i : Int) num ms = some ((encS (acc ++ mItems (ms.drop i))).1, true) := by
  induction d with
  | zero =>
    intro i k acc hi ha hw hk
    obtain ⟨k, rfl⟩ : ∃ m, k = m + 1 := ⟨k - 1, by omega⟩
    simp only [carillonref12_Encode.l0]
    rw [if_neg (by omega), List.drop_of_length_le (by omega), rencode_is acc hw k (by omega)]
    simp [mItems]
  | succ d ih =>
    intro i k acc hi ha hw hk
    obtain ⟨k, rfl⟩ : ∃ m, k = m + 1 := ⟨k - 1, by omega⟩
    have ew : wrap64 ((i : Int) + 1) = ((i + 1 : Nat) : Int) := by rw [wrap64_id] <;> omega
    simp only [carillonref12_Encode.l0]
    rw [if_pos (by omega), if_pos (by omega), rdM ms i (by omega), ew]
    simp only [Option.bind_some]
    rw [if_pos (by simp; omega), ih (i + 1) k _ (by omega) (by simp; omega) ?_ (by omega)]
    · have e : mItems (ms.drop i) = [⟨1, IntKind.u64.wrap ms[i].f0, ⟨#[]⟩⟩, ⟨3, IntKind.u64.wrap ms[i].f1, ⟨#[]⟩⟩] ++ mItems (ms.drop (i + 1)) := by
        unfold mItems
        rw [List.drop_eq_getElem_cons (show i < ms.length by omega), List.flatMap_cons]
      rw [e, List.append_assoc]
    · intro x hx
      rcases List.mem_append.1 hx with hx | hx
      · exact hw x hx
      · exact mItems_wf [ms[i]] x (by simpa [mItems] using hx)
theorem rvenc_is (num : Int) (ms : List VM) (hl : ms.length ≤ 4611686018427387904) (k : Nat) (hk : ms.length + 2020 < k) : carillonref12_Encode.f k num ms = some (if ViewP num ms = true then ((encS (vItems num ms)).1, true) else (⟨#[]⟩, false)) := by
  unfold carillonref12_Encode.f
  rw [rright_is num ms hl k (by omega)]
  simp only [Option.bind_some]
  by_cases h : ViewP num ms = true
  · rw [if_pos h, if_pos h]
    obtain ⟨_, _, _, _, hlen⟩ := viewP_parts h
    have := rvenc_loop num ms (by omega) ms.length 0 k [⟨3, IntKind.u64.wrap num, ⟨#[]⟩⟩] (by omega) (by simp) (by
      intro x hx
      obtain rfl := List.mem_singleton.1 hx
      exact vItems_wf num [] _ (List.mem_cons_self ..)) (by omega)
    rw [List.drop_zero] at this
    exact this
  · rw [if_neg h, if_neg h]
def bigM (ms : List VM) : Bool := ms.any fun m => decide (9007199254740991 < m.f1)
theorem rvdec_loop (num : Int) (ms : List VM) (hms : ∀ m ∈ ms, (0 ≤ m.f0 ∧ m.f0 < 256) ∧ 0 ≤ m.f1) (hl : ms.length ≤ 1000) (x0 : S50) (d : Nat) : ∀ (i k : Nat), i + d = ms.length → d + 1010 < k →
    carillonref12_Decode.l0 k (x0 :: mPlain ms) ((2 * i + 1 : Nat) : Int) num (ms.take i) = some (if bigM (ms.drop i) = true then (0, [], 10) else if ViewP num ms = true then (num, ms, 0) else (0, [], 10)) := by
  have hlen : (x0 :: mPlain ms).length = 2 * ms.length + 1 := by rw [List.length_cons, mPlain_len]
  have hget : ∀ (ms : List VM) (i : Nat) (h : i < ms.length), (mPlain ms).getD (2 * i) z50 = ⟨1, ms[i].f0, ⟨#[]⟩⟩ ∧ (mPlain ms).getD (2 * i + 1) z50 = ⟨3, ms[i].f1, ⟨#[]⟩⟩ := by
    intro ms
    induction ms with
    | nil => intro i h; cases h
    | cons m r ih =>
      intro i h
      cases i with
      | zero => exact ⟨rfl, rfl⟩
      | succ i =>
        obtain ⟨a, b⟩ := ih i (by simpa using h)
        exact ⟨a, b⟩
  induction d with
  | zero =>
    intro i k hi hk
    obtain ⟨k, rfl⟩ : ∃ m, k = m + 1 := ⟨k - 1, by omega⟩
    simp only [carillonref12_Decode.l0]
    rw [if_neg (by omega), List.drop_of_length_le (by omega), List.take_of_length_le (by omega), rright_is num ms (by omega) k (by omega), if_neg (show ¬ bigM [] = true by decide)]
    simp only [Option.bind_some]
    by_cases h : ViewP num ms = true
    · rw [if_pos h, if_pos h]
    · rw [if_neg h, if_neg h]
  | succ d ih =>
    intro i k hi hk
    obtain ⟨k, rfl⟩ : ∃ m, k = m + 1 := ⟨k - 1, by omega⟩
    have e1 : wrap64 (((2 * i + 1 : Nat) : Int) + 1) = ((2 * i + 2 : Nat) : Int) := by rw [wrap64_id] <;> omega
    have e2 : wrap64 (((2 * i + 1 : Nat) : Int) + 2) = ((2 * (i + 1) + 1 : Nat) : Int) := by rw [wrap64_id] <;> omega
    have hil : i < ms.length := by omega
    obtain ⟨g1, g2⟩ := hget ms i hil
    have r1 : rd_T50 (x0 :: mPlain ms) ((2 * i + 1 : Nat) : Int) = ⟨1, ms[i].f0, ⟨#[]⟩⟩ := g1
    have r2 : rd_T50 (x0 :: mPlain ms) ((2 * i + 2 : Nat) : Int) = ⟨3, ms[i].f1, ⟨#[]⟩⟩ := g2
    have hm := hms ms[i] (List.getElem_mem hil)
    have hb : bigM (ms.drop i) = (decide (9007199254740991 < ms[i].f1) || bigM (ms.drop (i + 1))) := by
      rw [List.drop_eq_getElem_cons hil]
      rfl
    simp only [carillonref12_Decode.l0]
    rw [e1, e2, if_pos (by omega), if_pos (by omega), if_pos (by omega), r1, r2, hb]
    dsimp only
    by_cases hc : ms[i].f1 > 9007199254740991
    · rw [if_pos hc, decide_eq_true (show 9007199254740991 < ms[i].f1 from hc), Bool.true_or, if_pos rfl]
    · rw [if_neg hc, if_pos (by omega), if_pos (by rw [List.length_take]; omega), wrap64_id (by omega) (by omega), wrap64_id (by omega) (by omega), decide_eq_false (show ¬ 9007199254740991 < ms[i].f1 from hc), Bool.false_or]
      have := ih (i + 1) k (by omega) (by omega)
      rw [List.take_succ_eq_append_getElem hil] at this
      exact this
theorem any_grt (ms : List VM) (h : ∀ m ∈ ms, m.f0 < 256) : (mPlain ms).any grt = bigM ms := by
  induction ms with
  | nil => rfl
  | cons m r ih =>
    have h0 := h m (List.mem_cons_self ..)
    unfold mPlain bigM at *
    rw [List.flatMap_cons, List.any_append, ih (fun x hx => h x (List.mem_cons_of_mem _ hx)), List.any_cons]
    congr 1
    simp only [List.any_cons, List.any_nil, Bool.or_false]
    unfold grt
    rw [decide_eq_false (show ¬ (9007199254740991 : Int) < m.f0 by omega), Bool.false_or]
theorem vdec_same (s : ByteArray) (hs : s.size ≤ 140737488351232) (k : Nat) (hk : 1048577 ≤ k) :
    ∃ r : Int × List VM × Int, view_Decode.f k s = some r ∧ carillonref12_Decode.f k s = some r ∧ r.2.1.length ≤ 1000 := by
  unfold view_Decode.f carillonref12_Decode.f
  rw [decode_is _ s (by decide) (by omega) k (by omega), rdecode_is _ s (by decide) hs k hk]
  simp only [Option.bind_some]
  by_cases h : (decodeS [108, 42, 98, 108] s).2 = 0
  case neg => exact ⟨_, by rw [if_neg h], by rw [if_neg h], Nat.zero_le _⟩
  obtain ⟨l, hd⟩ : ∃ l, decodeS [108, 42, 98, 108] s = (l, 0) := ⟨_, Prod.ext rfl h⟩
  rw [hd]
  dsimp only
  rw [if_pos rfl, if_pos rfl]
  unfold decodeS at hd
  rw [show parseS [108, 42, 98, 108] = some ([3], [1, 3]) by decide] at hd
  obtain ⟨m, e, hm, h1, h2, h3, h4, j, h5⟩ := enc_dec [1, 3] (by intro x hx; simp only [List.mem_cons, List.not_mem_nil, or_false] at hx; omega) 1000 [3] [] s l (by intro x hx; simp only [List.mem_cons, List.not_mem_nil, or_false] at hx; omega) (by omega) hd
  rw [List.nil_append] at hm
  subst hm
  match l, h1, h3, h4, h5 with
  | [], _, _, _, h5 => simp at h5
  | x0 :: r, h1, h3, h4, h5 =>
    simp only [List.map_cons, List.cons_append, List.nil_append, List.cons.injEq] at h5
    obtain ⟨k0, kr⟩ := h5
    have h1' := h1
    simp only [encAll] at h1'
    cases g1 : encOne x0 with
    | error e1 => rw [g1] at h1'; cases h1'
    | ok a =>
      rw [g1] at h1'
      cases g2 : encAll r with
      | error e1 => rw [g2] at h1'; cases h1'
      | ok c =>
        obtain ⟨ms, q1, q2, q3⟩ := pairs_of j r c g2 (fun z hz => h3 z (List.mem_cons_of_mem _ hz)) kr
        have w0 := (h3 x0 (List.mem_cons_self ..)).1
        obtain ⟨p0, -⟩ := num_parts x0 a g1 (by rw [k0]; decide)
        obtain ⟨y0, num, y2⟩ := x0
        dsimp only at k0 p0 w0
        subst k0 p0 q2
        rw [List.length_cons, mPlain_len] at h4
        rw [cf_is _ (by rw [List.length_cons, mPlain_len]; omega), List.any_cons, any_grt ms (fun m hm => (q3 m hm).1.2)]
        simp only [Option.bind_some]
        rw [show rd_T50 (⟨3, num, ⟨#[]⟩⟩ :: mPlain ms) 0 = ⟨3, num, ⟨#[]⟩⟩ from rfl, if_pos (show (0 : Int) < ((⟨3, num, ⟨#[]⟩⟩ :: mPlain ms : List S50).length : Int) by rw [List.length_cons]; omega), if_pos (show (0 : Int) < ((⟨3, num, ⟨#[]⟩⟩ :: mPlain ms : List S50).length : Int) by rw [List.length_cons]; omega)]
        dsimp only
        have hgr : grt (⟨3, num, ⟨#[]⟩⟩ : S50) = decide (9007199254740991 < num) := rfl
        rw [hgr]
        by_cases hn : num > 9007199254740991
        · rw [if_pos hn, decide_eq_true (show 9007199254740991 < num from hn), Bool.true_or, if_pos rfl]
          exact ⟨_, rfl, rfl, Nat.zero_le _⟩
        rw [if_neg hn, decide_eq_false (show ¬ 9007199254740991 < num from hn), Bool.false_or, wrap64_id (by omega) (by omega)]
        have r0 := rvdec_loop num ms q3 (by omega) ⟨3, num, ⟨#[]⟩⟩ ms.length 0 k (by omega) (by omega)
        rw [List.drop_zero] at r0
        have r0' : carillonref12_Decode.l0 k (⟨3, num, ⟨#[]⟩⟩ :: mPlain ms) 1 num [] = _ := r0
        rw [r0']
        by_cases hb : bigM ms = true
        · rw [if_pos hb, if_pos hb]
          exact ⟨_, rfl, rfl, Nat.zero_le _⟩
        rw [if_neg hb, if_neg hb]
        have hall : ∀ m ∈ ms, ((0 ≤ m.f0 ∧ m.f0 < 256) ∧ 0 ≤ m.f1) ∧ m.f1 ≤ 9007199254740991 := by
          intro m hm
          refine ⟨q3 m hm, ?_⟩
          by_cases hc : m.f1 ≤ 9007199254740991
          · exact hc
          · exact absurd (List.any_eq_true.2 ⟨m, hm, by simp; omega⟩) hb
        have l0 := vdec_loop2 num ms hall (by omega) ⟨3, num, ⟨#[]⟩⟩ ms.length 0 k (by omega) (by omega)
        have l0' : view_Decode.l0 k (⟨3, num, ⟨#[]⟩⟩ :: mPlain ms) 1 num [] = some (if ViewP num ms = true then (num, ms, 0) else (0, [], 10)) := l0
        rw [l0']
        refine ⟨_, rfl, rfl, ?_⟩
        split
        · dsimp only; omega
        · exact Nat.zero_le _
theorem views_loop (n n' : Int) (l : List VM) (hl : l.length ≤ 1000000000000000) (d : Nat) : ∀ (i k : Nat), i + d = l.length → d < k → carillonlaw12_views.l0 k (i : Int) n l n' l = some true := by
  induction d with
  | zero =>
    intro i k hi hk
    obtain ⟨k, rfl⟩ : ∃ x, k = x + 1 := ⟨k - 1, by omega⟩
    simp only [carillonlaw12_views.l0]
    rw [if_neg (by omega)]
  | succ d ih =>
    intro i k hi hk
    obtain ⟨k, rfl⟩ : ∃ x, k = x + 1 := ⟨k - 1, by omega⟩
    have ew : wrap64 ((i : Int) + 1) = ((i + 1 : Nat) : Int) := by unfold wrap64; omega
    simp only [carillonlaw12_views.l0]
    rw [if_pos (by omega), if_pos (by omega), if_pos (by omega), ew, ih (i + 1) k (by omega) (by omega), if_neg (by simp)]
theorem viewsL_is (n : Int) (l : List VM) (hl : l.length ≤ 1000000000000000) (k : Nat) (hk : l.length < k) : carillonlaw12_views.f k n l n l = some true := by
  unfold carillonlaw12_views.f
  rw [if_pos rfl, if_pos rfl]
  exact views_loop n n l hl l.length 0 k (by omega) hk
end Go.Proofs.YtbcpjegakjcmgaaDoor.P
