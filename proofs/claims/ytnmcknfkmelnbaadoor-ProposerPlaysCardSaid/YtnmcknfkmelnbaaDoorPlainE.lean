/- An acceptor is written, or refused. -/
import Derived.Lib.Strings
import Derived.Test.YtnmcknfkmelnbaaDoorPx5
import Derived.Test.YtnmcknfkmelnbaaDoorPx6
import Derived.Test.YtnmcknfkmelnbaaDoorPlainM
namespace Go.Proofs.YtnmcknfkmelnbaaDoor.P
open Go.RowKit Go.Proofs.YtnmcknfkmelnbaaDoorW.PrintWords Go.Proofs.YtnmcknfkmelnbaaDoorW.PrintLast Go.Proofs.YtnmcknfkmelnbaaDoorW.PrintMore
set_option linter.unusedSimpArgs false
set_option linter.unusedVariables false
set_option maxRecDepth 100000
theorem wrap64_id {n : Int} (h0 : -9223372036854775808 ≤ n) (h1 : n < 9223372036854775808) : wrap64 n = n := by unfold wrap64; omega
theorem data_len (s : ByteArray) : s.data.toList.length = s.size := by rw [Array.length_toList]; rfl
theorem toList_eq (s : ByteArray) : s.toList = s.data.toList := (Lib.toList_data s)
theorem bt_get (s : ByteArray) (i : Nat) (h : i < s.size) : bt s (i : Int) = (((s.data.toList.getD i 0).toNat : Nat) : Int) := by
  have e : ((i : Int)).toNat = i := rfl
  unfold bt
  rw [dif_pos (by rw [e]; exact h), List.getD_eq_getElem?_getD, List.getElem?_eq_getElem (by rw [data_len]; exact h)]
  rfl
/-- How many bytes a number of a kind has. -/
def widthI (k : Int) : Nat := if k = 1 then 1 else if k = 2 then 4 else if k = 3 then 8 else 0
theorem ba_eq {s t : ByteArray} (h : s.data.toList = t.data.toList) : s = t := by
  obtain ⟨⟨l⟩⟩ := s
  obtain ⟨⟨m⟩⟩ := t
  simp at h
  rw [h]
/-- A number as so many bytes. -/
def beI (v : Int) : Nat → List Int
  | 0 => []
  | n + 1 => (v / 256 ^ n) % 256 :: beI v n
theorem beI_length (v : Int) (n : Nat) : (beI v n).length = n := by
  induction n with
  | zero => rfl
  | succ n ih => simp [beI, ih]
/-- An item's bytes, or the error. -/
def encOne (x : S87) : Except Int (List Int) :=
  if x.f0 = 4 then (if x.f1 = 0 then (if 100000 < x.f2.size then .error 3 else .ok (beI (x.f2.size : Int) 4 ++ bytesOf x.f2)) else .error 1)
  else if 1 ≤ x.f0 ∧ x.f0 ≤ 3 then (if x.f2.toList = ([] : List UInt8) then (if 8 ≤ widthI x.f0 ∨ x.f1 / 256 ^ widthI x.f0 = 0 then .ok (beI x.f1 (widthI x.f0)) else .error 1) else .error 1)
  else .error 1
def encAll : List S87 → Except Int (List Int)
  | [] => .ok []
  | x :: xs => match encOne x with
    | .error e => .error e
    | .ok l => match encAll xs with
      | .error e => .error e
      | .ok m => .ok (l ++ m)
def encS (l : List S87) : ByteArray × Int := if 1000 < l.length then (⟨#[]⟩, 3) else match encAll l with
  | .error e => (⟨#[]⟩, e)
  | .ok m => (strOfNums m, 0)
theorem widthI_le (k : Int) : widthI k ≤ 8 := by
  unfold widthI
  by_cases h1 : k = 1
  · rw [if_pos h1]; decide
  · rw [if_neg h1]
    by_cases h2 : k = 2
    · rw [if_pos h2]; decide
    · rw [if_neg h2]
      by_cases h3 : k = 3
      · rw [if_pos h3]; decide
      · rw [if_neg h3]; decide
theorem encOne_len {x : S87} {l : List Int} (h : encOne x = .ok l) : l.length ≤ 100004 := by
  unfold encOne at h
  split at h
  · split at h
    · split at h
      · cases h
      · cases h
        rw [List.length_append, beI_length, bytesOf_length]; omega
    · cases h
  · split at h
    · split at h
      · split at h
        · cases h
          rw [beI_length]
          have := widthI_le x.f0
          omega
        · cases h
      · cases h
    · cases h
theorem put_is (v : Int) (m : Nat) : ∀ (k : Nat) (acc : List Int), m ≤ 8 → acc.length + m ≤ 1000000008 → codec_put.l0 (k + m + 1) acc v (8 * (m : Int) - 8) = some (acc ++ beI v m) := by
  induction m with
  | zero =>
    intro k acc _ _
    simp only [codec_put.l0]
    rw [if_neg (by omega)]
    simp [beI]
  | succ m ih =>
    intro k acc hm ha
    rw [show k + (m + 1) + 1 = (k + m + 1) + 1 by omega, codec_put.l0, if_pos (by omega), if_pos (by omega), if_pos (by omega)]
    have e1 : wrap64 (8 * ((m + 1 : Nat) : Int) - 8 - 8) = 8 * (m : Int) - 8 := by rw [wrap64_id] <;> omega
    have e2 : shr .u64 v (8 * ((m + 1 : Nat) : Int) - 8) = v / 256 ^ m := by
      unfold shr
      have : (8 * ((m + 1 : Nat) : Int) - 8).toNat = 8 * m := by omega
      rw [this, Nat.min_eq_left (by show 8 * m ≤ 64; omega), Int.pow_mul]
      rfl
    rw [e1, e2, ih k _ (by omega) (by simp; omega)]
    simp [beI]
theorem put_f (v : Int) (m : Nat) (k : Nat) (acc : List Int) (h1 : 1 ≤ m) (hm : m ≤ 8) (ha : acc.length ≤ 1000000000) (hk : 10 ≤ k) : codec_put.f k acc v (m : Int) = some (acc ++ beI v m) := by
  unfold codec_put.f
  rw [wrap64_id (n := (m : Int) - 1) (by omega) (by omega), wrap64_id (n := 8 * ((m : Int) - 1)) (by omega) (by omega), show 8 * ((m : Int) - 1) = 8 * (m : Int) - 8 by omega]
  have := put_is v m (k - m - 1) acc hm (by omega)
  rwa [show k - m - 1 + m + 1 = k by omega] at this
theorem rdT_nat (l : List S87) (i : Nat) (h : i < l.length) : rd_T87 l (i : Int) = l[i] := by
  unfold rd_T87
  rw [show ((i : Int)).toNat = i from rfl, List.getD_eq_getElem?_getD, List.getElem?_eq_getElem h]
  rfl
/-- Numbers of their kinds. -/
def WfI (x : S87) : Prop := 0 ≤ x.f1 ∧ x.f1 < 18446744073709551616 ∧ -9223372036854775808 ≤ x.f0 ∧ x.f0 ≤ 9223372036854775807 ∧ x.f2.size ≤ 140737488351232
theorem enc_loop (l : List S87) (hl : l.length ≤ 1000) (hw : ∀ x ∈ l, WfI x) (d : Nat) : ∀ (i : Nat) (acc : List Int) (k : Nat), i + d = l.length → acc.length ≤ i * 100004 → d + 12 ≤ k →
    codec_Encode.l0 k acc l (l.length : Int) (i : Int) = some (match encAll (l.drop i) with
      | .error e => (⟨#[]⟩, e)
      | .ok m => (strOfNums (acc ++ m), 0)) := by
  induction d with
  | zero =>
    intro i acc k hi ha hk
    obtain ⟨k, rfl⟩ : ∃ m, k = m + 1 := ⟨k - 1, by omega⟩
    simp only [codec_Encode.l0]
    rw [if_neg (by omega), List.drop_of_length_le (by omega)]
    simp [encAll]
  | succ d ih =>
    intro i acc k hi ha hk
    obtain ⟨k, rfl⟩ : ∃ m, k = m + 1 := ⟨k - 1, by omega⟩
    have hlt : i < l.length := by omega
    have ew : wrap64 ((i : Int) + 1) = ((i + 1 : Nat) : Int) := by rw [wrap64_id] <;> omega
    rw [List.drop_eq_getElem_cons hlt]
    simp only [codec_Encode.l0]
    rw [if_pos (by omega), if_pos (by omega), if_pos (by omega), rdT_nat l i hlt, ew]
    have hx := hw _ (List.getElem_mem hlt)
    generalize l[i] = x at hx ⊢
    have next : ∀ b : List Int, b.length ≤ 100004 → codec_Encode.l0 k (acc ++ b) l (l.length : Int) ((i + 1 : Nat) : Int) = some (match (match encAll (l.drop (i + 1)) with
        | .error e => (.error e : Except Int (List Int))
        | .ok m => .ok (b ++ m)) with
      | .error e => (⟨#[]⟩, e)
      | .ok m => (strOfNums (acc ++ m), 0)) := by
      intro b hb
      rw [ih (i + 1) (acc ++ b) k (by omega) (by simp; omega) (by omega)]
      cases encAll (l.drop (i + 1)) <;> simp
    simp only [encAll]
    unfold encOne
    by_cases h4 : x.f0 = 4
    · rw [if_neg (by omega), if_neg (by omega), if_pos h4, if_pos h4]
      by_cases h1 : x.f1 = 0
      · rw [if_pos h1, if_pos h1]
        by_cases hs : 100000 < x.f2.size
        · rw [if_pos (by omega), if_pos hs]
        · rw [if_neg (by omega), if_neg hs]
          have eu : IntKind.u64.wrap (x.f2.size : Int) = (x.f2.size : Int) := by show (x.f2.size : Int) % 18446744073709551616 = _; omega
          have p4 := put_f (x.f2.size : Int) 4 k acc (by decide) (by decide) (by omega) (by omega)
          rw [show ((4 : Nat) : Int) = 4 from rfl] at p4
          rw [eu, p4]
          simp only [Option.bind_some]
          rw [if_pos (by rw [List.length_append, beI_length]; omega), List.append_assoc]
          exact next _ (by rw [List.length_append, beI_length, bytesOf_length]; omega)
      · rw [if_neg h1, if_neg h1]
    · by_cases hr : 1 ≤ x.f0 ∧ x.f0 ≤ 3
      · rw [if_neg (by omega), if_neg (by omega), if_neg h4, if_neg h4, if_pos (by omega), if_pos (by omega), if_pos hr]
        have e : rd sizTabI x.f0 = ((widthI x.f0 : Nat) : Int) ∧ 1 ≤ widthI x.f0 ∧ widthI x.f0 ≤ 8 := by
          have : x.f0 = 1 ∨ x.f0 = 2 ∨ x.f0 = 3 := by omega
          rcases this with h | h | h <;> rw [h] <;> exact ⟨rfl, by decide, by decide⟩
        obtain ⟨e1, e2, e3⟩ := e
        rw [e1]
        by_cases h2 : x.f2.toList = ([] : List UInt8)
        · rw [if_pos h2, if_pos h2]
          have ep : ∀ k' : Nat, codec_put.f k acc x.f1 ((widthI x.f0 : Nat) : Int) = some (acc ++ beI x.f1 (widthI x.f0)) := fun _ => put_f _ _ k acc e2 e3 (by omega) (by omega)
          by_cases h8 : widthI x.f0 = 8
          · rw [if_neg (by omega), if_pos (.inl (by omega)), ep 0]
            simp only [Option.bind_some]
            exact next _ (by rw [beI_length]; omega)
          · have es : shr .u64 x.f1 (wrap64 (8 * ((widthI x.f0 : Nat) : Int))) = x.f1 / 256 ^ widthI x.f0 := by
              rw [wrap64_id (by omega) (by omega)]
              unfold shr
              have : (8 * ((widthI x.f0 : Nat) : Int)).toNat = 8 * widthI x.f0 := by omega
              rw [this, Nat.min_eq_left (by show 8 * widthI x.f0 ≤ 64; omega), Int.pow_mul]
              rfl
            have hq : 0 ≤ x.f1 / 256 ^ widthI x.f0 := Int.ediv_nonneg hx.1 (Int.pow_nonneg (by decide))
            rw [if_pos (by omega), if_pos (by rw [wrap64_id] <;> omega), es]
            by_cases h0 : x.f1 / 256 ^ widthI x.f0 = 0
            · rw [if_neg (by omega), if_pos (.inr h0), ep 0]
              simp only [Option.bind_some]
              exact next _ (by rw [beI_length]; omega)
            · rw [if_pos (by omega), if_neg (by rintro (h | h) <;> omega)]
        · rw [if_neg h2, if_neg h2]
      · by_cases hlo : x.f0 < 1
        · rw [if_pos hlo, if_neg h4, if_neg hr]
        · rw [if_neg hlo, if_pos (by omega), if_neg h4, if_neg hr]
/-- The program's Encode, at every list of items. -/
theorem encode_is (l : List S87) (hw : ∀ x ∈ l, WfI x) (k : Nat) (hk : 1012 ≤ k) : codec_Encode.f k l = some (encS l) := by
  unfold codec_Encode.f encS
  by_cases h : 1000 < l.length
  · rw [if_pos (by omega), if_pos h]
  · rw [if_neg (by omega), if_neg h]
    have := enc_loop l (by omega) hw l.length 0 [] k (by omega) (by simp) (by omega)
    rw [List.drop_zero] at this
    exact this
theorem beI_snoc (n : Nat) : ∀ v : Int, beI v (n + 1) = beI (v / 256) n ++ [v % 256] := by
  induction n with
  | zero => intro v; simp [beI]
  | succ n ih =>
    intro v
    rw [beI, ih v]
    show _ = ((v / 256) / 256 ^ n) % 256 :: beI (v / 256) n ++ [v % 256]
    rw [Int.pow_succ, Int.mul_comm, ← Int.ediv_ediv_of_nonneg (by decide)]
    rfl
theorem wrapU {a : Int} (h0 : 0 ≤ a) (h1 : a < 18446744073709551616) : IntKind.u64.wrap a = a := by
  show a % 18446744073709551616 = a
  omega
def itemsA (a b c d : Int) (s : ByteArray) : List S87 := [⟨3, IntKind.u64.wrap a, ⟨#[]⟩⟩, ⟨1, IntKind.u64.wrap b, ⟨#[]⟩⟩, ⟨3, IntKind.u64.wrap c, ⟨#[]⟩⟩, ⟨1, IntKind.u64.wrap d, ⟨#[]⟩⟩, ⟨4, 0, s⟩]
theorem accP_range {a b c d : Int} {s : ByteArray} (h : AccP a b c d s) : (0 ≤ a ∧ a ≤ 9007199254740991) ∧ (0 ≤ b ∧ b < 7) ∧ (0 ≤ c ∧ c ≤ 9007199254740991) ∧ (0 ≤ d ∧ d < 7) ∧ s.size ≤ 100000 := by
  obtain ⟨h1, _, h3, _, h5⟩ := h
  unfold RightP at h1 h5
  omega
theorem itemsA_of {a b c d : Int} {s : ByteArray} (h : AccP a b c d s) : itemsA a b c d s = [⟨3, a, ⟨#[]⟩⟩, ⟨1, b, ⟨#[]⟩⟩, ⟨3, c, ⟨#[]⟩⟩, ⟨1, d, ⟨#[]⟩⟩, ⟨4, 0, s⟩] := by
  obtain ⟨h1, h2, h3, h4, _⟩ := accP_range h
  unfold itemsA
  rw [wrapU h1.1 (by omega), wrapU h2.1 (by omega), wrapU h3.1 (by omega), wrapU h4.1 (by omega)]
theorem itemsA_wf {a b c d : Int} {s : ByteArray} (h : AccP a b c d s) : ∀ x ∈ itemsA a b c d s, WfI x := by
  rw [itemsA_of h]
  obtain ⟨h1, h2, h3, h4, h5⟩ := accP_range h
  have z : (⟨#[]⟩ : ByteArray).size = 0 := rfl
  intro x hx
  simp only [List.mem_cons, List.not_mem_nil, or_false] at hx
  rcases hx with rfl | rfl | rfl | rfl | rfl <;> (unfold WfI; dsimp only; refine ⟨by omega, by omega, by omega, by omega, by omega⟩)
theorem encOne_long (v : Int) : encOne (⟨3, v, ⟨#[]⟩⟩ : S87) = .ok (beI v 8) := by
  unfold encOne
  dsimp only
  rw [if_neg (by decide), if_pos (by decide), if_pos (by rw [toList_eq]), if_pos (.inl (by decide))]
  rfl
theorem encOne_byte (v : Int) (h0 : 0 ≤ v) (h1 : v < 256) : encOne (⟨1, v, ⟨#[]⟩⟩ : S87) = .ok (beI v 1) := by
  unfold encOne
  dsimp only
  rw [if_neg (by decide), if_pos (by decide), if_pos (by rw [toList_eq]), if_pos (.inr (by show v / 256 ^ 1 = 0; omega))]
  rfl
theorem encOne_text (s : ByteArray) (h : s.size ≤ 100000) : encOne (⟨4, 0, s⟩ : S87) = .ok (beI (s.size : Int) 4 ++ bytesOf s) := by
  unfold encOne
  dsimp only
  rw [if_pos rfl, if_pos rfl, if_neg (by omega)]
theorem itemsA_enc {a b c d : Int} {s : ByteArray} (h : AccP a b c d s) : ∃ m, encAll (itemsA a b c d s) = .ok m := by
  rw [itemsA_of h]
  obtain ⟨h1, h2, h3, h4, h5⟩ := accP_range h
  simp only [encAll, encOne_long, encOne_byte b (by omega) (by omega), encOne_byte d (by omega) (by omega), encOne_text s h5]
  exact ⟨_, rfl⟩
theorem encS_ok5 {l : List S87} {m : List Int} (h : encAll l = .ok m) (hl : l.length ≤ 1000) : encS l = (strOfNums m, 0) := by
  unfold encS
  rw [if_neg (by omega), h]
/-- The program writes an acceptor. -/
theorem aenc_is (a b c d : Int) (s : ByteArray) (k : Nat) (hk : 1012 ≤ k) : acceptor_Encode.f k a b c d s = some (if AccP a b c d s then encS (itemsA a b c d s) else (⟨#[]⟩, 1)) := by
  unfold acceptor_Encode.f
  rw [acc_is]
  simp only [Option.bind_some]
  by_cases h : AccP a b c d s
  · rw [if_pos (by simpa using h), if_pos h]
    simp only [List.length_nil, List.nil_append, List.length_cons, List.length_append]
    rw [if_pos (by decide), if_pos (by decide), if_pos (by decide)]
    have e := encode_is (itemsA a b c d s) (itemsA_wf h) k hk
    have e2 : ([⟨3, IntKind.u64.wrap a, ⟨#[]⟩⟩, ⟨1, IntKind.u64.wrap b, ⟨#[]⟩⟩] ++ [⟨3, IntKind.u64.wrap c, ⟨#[]⟩⟩, ⟨1, IntKind.u64.wrap d, ⟨#[]⟩⟩] ++ [⟨4, 0, s⟩] : List S87) = itemsA a b c d s := rfl
    rw [e2, e]
    rfl
  · rw [if_neg (by simpa using h), if_neg h]
/-- Whether an acceptor is written. -/
theorem enc_he (a b c d : Int) (s : ByteArray) : ∃ re, acceptor_Encode.f 1012 a b c d s = some (re, if AccP a b c d s then 0 else 1) := by
  rw [aenc_is a b c d s 1012 (Nat.le_refl _)]
  by_cases h : AccP a b c d s
  · obtain ⟨m, hm⟩ := itemsA_enc h
    rw [if_pos h, if_pos h, encS_ok5 hm (show 5 ≤ 1000 by decide)]
    exact ⟨_, rfl⟩
  · rw [if_neg h, if_neg h]
    exact ⟨_, rfl⟩
end Go.Proofs.YtnmcknfkmelnbaaDoor.P
