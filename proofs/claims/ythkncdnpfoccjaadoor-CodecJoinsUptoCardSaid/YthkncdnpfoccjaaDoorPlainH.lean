/- The shape of items; what is written by it, and read. -/
import Derived.Test.YthkncdnpfoccjaaDoorPx7
import Derived.Test.YthkncdnpfoccjaaDoorPx9
import Derived.Test.YthkncdnpfoccjaaDoorPlainG
namespace Go.Proofs.YthkncdnpfoccjaaDoor.P
open Go.RowKit Go.Proofs.YthkncdnpfoccjaaDoorW.PrintWords Go.Proofs.YthkncdnpfoccjaaDoorW.PrintLast Go.Proofs.YthkncdnpfoccjaaDoorW.PrintMore
set_option linter.unusedSimpArgs false
set_option linter.unusedVariables false
set_option maxRecDepth 100000
theorem shB_kind (x : S32) (h : shOk x = true) : kindI (shB x) = x.f0 ∧ shB x ≠ 42 := by
  simp only [shOk, Bool.and_eq_true, decide_eq_true_eq] at h
  obtain ⟨f0, f1, f2⟩ := x
  dsimp only at h
  have : f0 = 1 ∨ f0 = 2 ∨ f0 = 3 ∨ f0 = 4 := by omega
  rcases this with rfl | rfl | rfl | rfl <;> exact ⟨by simp [shB, kindI], by simp [shB]⟩
theorem shape_parse (l : List S32) (h : l.all shOk = true) : parseS (l.map shB) = some (l.map (·.f0), []) := by
  rw [List.all_eq_true] at h
  have h42 : (42 : UInt8) ∉ l.map shB := by
    intro hm
    obtain ⟨x, hx, e⟩ := List.mem_map.1 hm
    exact (shB_kind x (h x hx)).2 e
  have hl : (l.map shB).all letB = true := by
    rw [List.all_eq_true]
    intro c hc
    obtain ⟨x, hx, rfl⟩ := List.mem_map.1 hc
    rw [letB_iff, (shB_kind x (h x hx)).1]
    have := h x hx
    simp only [shOk, Bool.and_eq_true, decide_eq_true_eq] at this
    exact this.1
  rw [parse_plain _ h42, if_pos hl, List.map_map]
  congr 2
  exact List.map_congr_left fun x hx => (shB_kind x (h x hx)).1
theorem encOne_shOk {x : S32} {l : List Int} (h : encOne x = .ok l) : shOk x = true := by
  have := encOne_kind h
  simp [shOk, this.1, this.2]
theorem enc_shOk (l : List S32) : ∀ m, encAll l = .ok m → l.all shOk = true ∧ m.length ≤ l.length * 100004 := by
  induction l with
  | nil => intro m h; cases h; simp
  | cons x xs ih =>
    intro m h
    simp only [encAll] at h
    cases h1 : encOne x with
    | error e => rw [h1] at h; cases h
    | ok a =>
      rw [h1] at h
      cases h2 : encAll xs with
      | error e => rw [h2] at h; cases h
      | ok b =>
        rw [h2] at h
        cases h
        obtain ⟨i1, i2⟩ := ih b h2
        have := encOne_len h1
        refine ⟨by rw [List.all_cons, encOne_shOk h1, i1]; rfl, ?_⟩
        rw [List.length_append, List.length_cons]
        omega
theorem encOne_err {x : S32} {e : Int} (h : encOne x = .error e) : e = 1 ∨ e = 3 := by
  unfold encOne at h
  repeat' split at h
  all_goals first | (cases h; omega) | cases h
theorem encAll_err (l : List S32) : ∀ e, encAll l = .error e → e = 1 ∨ e = 3 := by
  induction l with
  | nil => intro e h; cases h
  | cons x xs ih =>
    intro e h
    simp only [encAll] at h
    cases h1 : encOne x with
    | error e1 => rw [h1] at h; cases h; exact encOne_err h1
    | ok a =>
      rw [h1] at h
      cases h2 : encAll xs with
      | error e2 => rw [h2] at h; cases h; exact ih _ h2
      | ok b => rw [h2] at h; cases h
/-- Written, or refused: then it is empty. -/
theorem encS_cases (l : List S32) : (∃ m, encAll l = .ok m ∧ l.length ≤ 1000 ∧ encS l = (strOfNums m, 0)) ∨ (∃ e, (e = 1 ∨ e = 3) ∧ encS l = (⟨#[]⟩, e)) := by
  unfold encS
  by_cases h : 1000 < l.length
  · exact .inr ⟨3, .inr rfl, by rw [if_pos h]⟩
  · rw [if_neg h]
    cases h1 : encAll l with
    | error e => exact .inr ⟨e, encAll_err l e h1, rfl⟩
    | ok m => exact .inl ⟨m, rfl, by omega, rfl⟩
theorem shape_f (l : List S32) (hl : l.length < 140737488351232) : codec_Shape.f l = some (if l.all shOk then (⟨(l.map shB).toArray⟩, 0) else (⟨#[]⟩, 1)) := by
  unfold codec_Shape.f
  rw [if_pos hl]
  split <;> rfl
theorem son_size (m : List Int) : (strOfNums m).size = m.length := by rw [← data_len, son_data, toU_length]
/-- Items that are written, and whatever stands behind them, by their own shape. -/
theorem dec_shape (l : List S32) (m : List Int) (R : List UInt8) (s : ByteArray) (hw : ∀ x ∈ l, WfI x) (h : encAll l = .ok m) (hl : l.length ≤ 1000) (hs : s.data.toList = toU m ++ R) :
    decodeS (l.map shB) s = if R = [] then (l, 0) else ([], 10) := by
  unfold decodeS
  rw [shape_parse l (enc_shOk l m h).1]
  dsimp only
  have := dec_enc [] R l m 1000 [] [] s hw h hl hs
  rw [List.append_nil] at this
  rw [this, List.nil_append]
  have e : ((⟨R.toArray⟩ : ByteArray).toList = ([] : List UInt8)) ↔ R = [] := by rw [toList_eq]
  cases hn : 1000 - l.length with
  | zero =>
    simp only [decS, nextK]
    by_cases g : R = []
    · rw [if_pos (e.2 g), if_pos g]
    · rw [if_neg (fun h => g (e.1 h)), if_neg g]
  | succ n =>
    simp only [decS, nextK]
    by_cases g : R = []
    · rw [if_pos (e.2 g), if_pos g]
    · rw [if_neg (fun h => g (e.1 h)), if_neg g]
theorem same_loop (l : List S32) (hl : l.length ≤ 4611686018427387904) (d : Nat) : ∀ (i k : Nat), i + d = l.length → d < k → carillonlaw01_same.l0 k l l (i : Int) = some true := by
  induction d with
  | zero =>
    intro i k hi hk
    obtain ⟨k, rfl⟩ : ∃ m, k = m + 1 := ⟨k - 1, by omega⟩
    simp only [carillonlaw01_same.l0]
    rw [if_neg (by omega)]
  | succ d ih =>
    intro i k hi hk
    obtain ⟨k, rfl⟩ : ∃ m, k = m + 1 := ⟨k - 1, by omega⟩
    have ew : wrap64 ((i : Int) + 1) = ((i + 1 : Nat) : Int) := by rw [wrap64_id] <;> omega
    simp only [carillonlaw01_same.l0]
    rw [if_pos (by omega), if_pos (by omega), if_pos (by omega), if_neg (by simp), ew]
    exact ih (i + 1) k (by omega) (by omega)
theorem same_f (l : List S32) (hl : l.length ≤ 4611686018427387904) (k : Nat) (hk : l.length < k) : carillonlaw01_same.f k l l = some true := by
  unfold carillonlaw01_same.f
  rw [if_pos rfl]
  exact same_loop l hl l.length 0 k (by omega) hk
theorem decS_bad (b : List Int) (n : Nat) : ∀ (cur : List Int) (out : List S32) (s : ByteArray), (decS b n cur out s).2 ≠ 0 → (decS b n cur out s).1 = [] := by
  induction n with
  | zero =>
    intro cur out s
    cases cur with
    | nil =>
      cases b with
      | nil => simp only [decS, nextK]; split <;> simp
      | cons x xs => simp only [decS, nextK]; by_cases g : s.toList = ([] : List UInt8) <;> simp [g]
    | cons x xs => simp [decS, nextK]
  | succ n ih =>
    intro cur out s
    have arm : ∀ (k : Int) (ks : List Int), (match takeS k s with
        | Except.error e => (([] : List S32), e)
        | Except.ok (x, s') => decS b n ks (out ++ [x]) s').2 ≠ 0 → (match takeS k s with
        | Except.error e => (([] : List S32), e)
        | Except.ok (x, s') => decS b n ks (out ++ [x]) s').1 = [] := by
      intro k ks
      cases takeS k s with
      | error e => simp
      | ok p => exact ih ks _ _
    cases cur with
    | nil =>
      cases b with
      | nil => simp only [decS, nextK]; split <;> simp
      | cons x xs =>
        simp only [decS, nextK]
        by_cases g : s.toList = ([] : List UInt8)
        · simp [g]
        · rw [if_neg g]; exact arm x xs
    | cons x xs => exact arm x xs
theorem decodeS_bad (L : List UInt8) (s : ByteArray) (h : (decodeS L s).2 ≠ 0) : (decodeS L s).1 = [] := by
  unfold decodeS at h ⊢
  split
  · rfl
  · rename_i a b hp
    rw [hp] at h
    exact decS_bad b 1000 a [] s h
theorem kindsOk {L : List UInt8} (h : L.all letB = true) : ∀ x ∈ L.map kindI, 1 ≤ x ∧ x ≤ 4 := by
  intro x hx
  obtain ⟨c, hc, rfl⟩ := List.mem_map.1 hx
  exact ⟨(letB_iff c).1 (List.all_eq_true.1 h c hc), (kindI_range c).2⟩
theorem parse_kinds {L : List UInt8} {a b : List Int} (h : parseS L = some (a, b)) : (∀ x ∈ a, 1 ≤ x ∧ x ≤ 4) ∧ (∀ x ∈ b, 1 ≤ x ∧ x ≤ 4) := by
  unfold parseS at h
  split at h
  · split at h
    · rename_i hc
      cases h
      rw [Bool.and_eq_true, List.all_append, Bool.and_eq_true] at hc
      exact ⟨kindsOk hc.1.1, kindsOk hc.1.2⟩
    · cases h
  · split at h
    · rename_i hc
      cases h
      exact ⟨kindsOk hc, by simp⟩
    · cases h
/-- What was read is written as it stood. -/
theorem decode_back {L : List UInt8} {s : ByteArray} {l : List S32} (hs : s.size ≤ 1000000000000000) (h : decodeS L s = (l, 0)) : ∃ e, encAll l = .ok e ∧ s = strOfNums e ∧ (∀ x ∈ l, WfI x) ∧ l.length ≤ 1000 := by
  unfold decodeS at h
  split at h
  · cases h
  · rename_i a b hp
    obtain ⟨ka, kb⟩ := parse_kinds hp
    obtain ⟨m, e, rfl, h1, h2, h3, h4, _⟩ := enc_dec b kb 1000 a [] s l ka hs h
    exact ⟨e, h1, ba_eq (by rw [h2, son_data]), h3, h4⟩
theorem encS_of {l : List S32} {m : List Int} (h : encAll l = .ok m) (hl : l.length ≤ 1000) : encS l = (strOfNums m, 0) := by
  unfold encS
  rw [if_neg (by omega), h]
/-- A beginning of what is written of an item is too short. -/
theorem take_cut {x : S32} {a : List Int} (h : encOne x = .ok a) (s : ByteArray) (c : Nat) (hc : c < a.length) (hs : s.data.toList = (toU a).take c) : takeS x.f0 s = .error 2 := by
  have hz : s.size = c := by rw [← data_len, hs, List.length_take, toU_length]; omega
  unfold encOne at h
  by_cases h4 : x.f0 = 4
  · rw [if_pos h4] at h
    by_cases h1 : x.f1 = 0
    case neg => rw [if_neg h1] at h; cases h
    rw [if_pos h1] at h
    by_cases h2 : 100000 < x.f2.size
    · rw [if_pos h2] at h; cases h
    rw [if_neg h2] at h
    cases h
    rw [List.length_append, beI_length] at hc
    have hb : (bytesOf x.f2).length = x.f2.size := by
      have := congrArg List.length (toU_bytes x.f2)
      rwa [toU_length, data_len] at this
    unfold takeS
    rw [if_pos h4]
    by_cases g : s.size < 4
    · rw [if_pos g]
    rw [if_neg g]
    have e : s.data.toList.take 4 = toU (beI ((x.f2.size : Nat) : Int) 4) := by
      rw [hs, List.take_take, show min 4 c = 4 by omega, toU_append, List.take_append_of_le_length (by rw [toU_length, beI_length]; decide), List.take_of_length_le (by rw [toU_length, beI_length]; decide)]
    rw [e, beNat_beI, Nat.mod_eq_of_lt (by omega), if_neg h2, if_pos (by omega)]
  · rw [if_neg h4] at h
    by_cases h1 : 1 ≤ x.f0 ∧ x.f0 ≤ 3
    case neg => rw [if_neg h1] at h; cases h
    rw [if_pos h1] at h
    have ha : a.length = widthI x.f0 := by
      repeat' split at h
      all_goals first | (cases h; rw [beI_length]) | cases h
    unfold takeS
    rw [if_neg h4, if_pos (by omega)]
theorem dec_cut : ∀ (l : List S32) (m : List Int) (n : Nat) (out : List S32) (s : ByteArray) (c : Nat), (∀ x ∈ l, WfI x) → encAll l = .ok m → l.length ≤ n → c < m.length → s.data.toList = (toU m).take c →
    decS [] n (l.map (·.f0)) out s = ([], 2) := by
  intro l
  induction l with
  | nil => intro m n out s c _ h _ hc; cases h; simp at hc
  | cons x xs ih =>
    intro m n out s c hw h hl hc hs
    simp only [encAll] at h
    cases h1 : encOne x with
    | error e => rw [h1] at h; cases h
    | ok a =>
      rw [h1] at h
      cases h2 : encAll xs with
      | error e => rw [h2] at h; cases h
      | ok b =>
        rw [h2] at h
        cases h
        rw [List.length_cons] at hl
        obtain ⟨n, rfl⟩ : ∃ p, n = p + 1 := ⟨n - 1, by omega⟩
        rw [List.map_cons]
        simp only [decS, nextK]
        rw [toU_append, List.take_append, toU_length] at hs
        by_cases g : c < a.length
        · rw [show c - a.length = 0 by omega, List.take_zero, List.append_nil] at hs
          rw [take_cut h1 s c g hs]
        · rw [List.take_of_length_le (by rw [toU_length]; omega)] at hs
          rw [take_enc (hw x (List.mem_cons_self ..)) h1 s _ hs]
          rw [List.length_append] at hc
          exact ih b n _ _ (c - a.length) (fun y hy => hw y (List.mem_cons_of_mem _ hy)) h2 (by omega) (by omega) rfl
/-- A beginning of what is written is not read by its shape. -/
theorem cut_shape (l : List S32) (m : List Int) (s : ByteArray) (c : Nat) (hw : ∀ x ∈ l, WfI x) (h : encAll l = .ok m) (hl : l.length ≤ 1000) (hc : c < m.length) (hs : s.data.toList = (toU m).take c) :
    decodeS (l.map shB) s = ([], 2) := by
  unfold decodeS
  rw [shape_parse l (enc_shOk l m h).1]
  exact dec_cut l m 1000 [] s c hw h hl hc hs
end Go.Proofs.YthkncdnpfoccjaaDoor.P
