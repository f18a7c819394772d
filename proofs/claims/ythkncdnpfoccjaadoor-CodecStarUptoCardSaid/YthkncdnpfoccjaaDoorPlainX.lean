/- The plain reading of items by a shape: what the document says ('decS'), and that the program's Decode comes to it. -/
import Derived.Lib.Repeat
import Derived.Test.YthkncdnpfoccjaaDoorPx3
namespace Go.Proofs.YthkncdnpfoccjaaDoor.P
open Go.RowKit Go.Proofs.YthkncdnpfoccjaaDoorW.PrintWords Go.Proofs.YthkncdnpfoccjaaDoorW.PrintLast Go.Proofs.YthkncdnpfoccjaaDoorW.PrintMore
set_option linter.unusedSimpArgs false
set_option linter.unusedVariables false
set_option maxRecDepth 100000
theorem wrap64_id {n : Int} (h0 : -9223372036854775808 ≤ n) (h1 : n < 9223372036854775808) : wrap64 n = n := by unfold wrap64; omega
theorem data_len (s : ByteArray) : s.data.toList.length = s.size := by rw [Array.length_toList]; rfl
theorem toList_eq (s : ByteArray) : s.toList = s.data.toList := (Lib.toList_data s)
theorem bt_get (s : ByteArray) (i : Nat) (h : i < s.size) : bt s (i : Int) = (((s.data.toList.getD i 0).toNat : Nat) : Int) := by
  have e : ((i : Int)).toNat = i := rfl
  unfold bt
  rw [dif_pos (by rw [e]; exact h), List.getD_eq_getElem?_getD, List.getElem?_eq_getElem (by rw [data_len]; exact h)]
  rfl
/-- A letter's kind. -/
def kindI (c : UInt8) : Int := if c = 98 then 1 else if c = 119 then 2 else if c = 108 then 3 else if c = 116 then 4 else 0
theorem kindI_range (c : UInt8) : 0 ≤ kindI c ∧ kindI c ≤ 4 := by unfold kindI; repeat' split <;> omega
theorem idx_kind (c : UInt8) : Lib.indexByte [98, 119, 108, 116] c = kindI c - 1 := by
  unfold kindI
  by_cases h1 : c = 98
  · subst h1; rfl
  by_cases h2 : c = 119
  · subst h2; rfl
  by_cases h3 : c = 108
  · subst h3; rfl
  by_cases h4 : c = 116
  · subst h4; rfl
  rw [if_neg h1, if_neg h2, if_neg h3, if_neg h4]
  have e1 : (98 == c) = false := by simpa using fun h => h1 h.symm
  have e2 : (119 == c) = false := by simpa using fun h => h2 h.symm
  have e3 : (108 == c) = false := by simpa using fun h => h3 h.symm
  have e4 : (116 == c) = false := by simpa using fun h => h4 h.symm
  simp [Lib.indexByte, e1, e2, e3, e4]
theorem letB_iff (c : UInt8) : letB c = true ↔ 1 ≤ kindI c := by
  unfold letB
  rw [idx_kind]
  simp only [Bool.not_eq_true', decide_eq_false_iff_not]
  omega
theorem idx_none (l : List UInt8) (c : UInt8) (h : c ∉ l) : Lib.indexByte l c = -1 := by
  induction l with
  | nil => rfl
  | cons b l ih =>
    simp only [List.mem_cons, not_or] at h
    have e : (b == c) = false := by simpa using fun x => h.1 x.symm
    simp [Lib.indexByte, e, ih h.2]
theorem idx_some (hd tl : List UInt8) (c : UInt8) (h : c ∉ hd) : Lib.indexByte (hd ++ c :: tl) c = hd.length := by
  induction hd with
  | nil => simp [Lib.indexByte]
  | cons b l ih =>
    simp only [List.mem_cons, not_or] at h
    have e : (b == c) = false := by simpa using fun x => h.1 x.symm
    have := ih h.2
    simp only [List.cons_append, Lib.indexByte, e, this]
    have : ((l.length : Int) == -1) = false := beq_eq_false_iff_ne.mpr (by omega)
    simp [this]
theorem cut_at (l : List UInt8) (c : UInt8) (h : c ∈ l) : ∃ hd tl, l = hd ++ c :: tl ∧ c ∉ hd := by
  induction l with
  | nil => simp at h
  | cons b l ih =>
    by_cases e : b = c
    · exact ⟨[], l, by simp [e], by simp⟩
    · have : c ∈ l := by simpa [Ne.symm e] using h
      obtain ⟨hd, tl, h1, h2⟩ := ih this
      exact ⟨b :: hd, tl, by rw [h1]; rfl, by simp [h2, Ne.symm e]⟩
/-- How many bytes a number of a kind has. -/
def widthI (k : Int) : Nat := if k = 1 then 1 else if k = 2 then 4 else if k = 3 then 8 else 0
/-- What is read of bytes by one kind: the item and the rest, or the error. -/
def takeS (k : Int) (s : ByteArray) : Except Int (S32 × ByteArray) :=
  if k = 4 then
    if s.size < 4 then .error 2 else
    if 100000 < beNat (s.data.toList.take 4) then .error 3 else
    if s.size - 4 < beNat (s.data.toList.take 4) then .error 2 else
    .ok (⟨4, 0, s.extract 4 (4 + beNat (s.data.toList.take 4))⟩, s.extract (4 + beNat (s.data.toList.take 4)) s.size)
  else if s.size < widthI k then .error 2 else
    .ok (⟨k, ((beNat (s.data.toList.take (widthI k)) : Nat) : Int), ⟨#[]⟩⟩, s.extract (widthI k) s.size)
/-- What comes next: the end, or a kind. -/
def nextK (b : List Int) : List Int → ByteArray → List S32 → (List S32 × Int) ⊕ (Int × List Int)
  | k :: ks, _, _ => .inr (k, ks)
  | [], s, out => match b with
    | [] => .inl (if s.toList = ([] : List UInt8) then (out, 0) else ([], 10))
    | k :: ks => if s.toList = ([] : List UInt8) then .inl (out, 0) else .inr (k, ks)
/-- The items, at most n more: cur: the kinds till the shape's end (or its star's), b: those behind a star. -/
def decS (b : List Int) : Nat → List Int → List S32 → ByteArray → List S32 × Int
  | 0, cur, out, s => match nextK b cur s out with
    | .inl r => r
    | .inr _ => ([], 3)
  | n + 1, cur, out, s => match nextK b cur s out with
    | .inl r => r
    | .inr (k, ks) => match takeS k s with
      | .error e => ([], e)
      | .ok (x, s') => decS b n ks (out ++ [x]) s'
/-- A shape's kinds: ahead of a star, behind it. -/
def parseS (L : List UInt8) : Option (List Int × List Int) :=
  if 42 ∈ L then
    (if ((L.takeWhile (fun c => c != 42)) ++ (L.dropWhile (fun c => c != 42)).drop 1).all letB && !((L.dropWhile (fun c => c != 42)).drop 1).isEmpty then some ((L.takeWhile (fun c => c != 42)).map kindI, ((L.dropWhile (fun c => c != 42)).drop 1).map kindI) else none)
  else if L.all letB then some (L.map kindI, []) else none
def decodeS (L : List UInt8) (s : ByteArray) : List S32 × Int := match parseS L with
  | none => ([], 1)
  | some (a, b) => decS b 1000 a [] s
theorem tw_cut (hd tl : List UInt8) (h : (42 : UInt8) ∉ hd) : (hd ++ 42 :: tl).takeWhile (fun c => c != 42) = hd ∧ (hd ++ 42 :: tl).dropWhile (fun c => c != 42) = 42 :: tl := by
  induction hd with
  | nil => simp
  | cons b l ih =>
    simp only [List.mem_cons, not_or] at h
    have e : (b != 42) = true := by simpa using fun x => h.1 x.symm
    have := ih h.2
    simp [List.takeWhile_cons, List.dropWhile_cons, e, this.1, this.2]
theorem parse_star (hd tl : List UInt8) (h : (42 : UInt8) ∉ hd) : parseS (hd ++ 42 :: tl) = if (hd ++ tl).all letB && !tl.isEmpty then some (hd.map kindI, tl.map kindI) else none := by
  unfold parseS
  rw [if_pos (by simp), (tw_cut hd tl h).1, (tw_cut hd tl h).2]
  rfl
theorem parse_plain (L : List UInt8) (h : (42 : UInt8) ∉ L) : parseS L = if L.all letB then some (L.map kindI, []) else none := by
  unfold parseS
  rw [if_neg h]
theorem ext_list (s : ByteArray) (i j : Nat) : (s.extract i j).data.toList = (s.data.toList.drop i).take (j - i) := by
  rw [ByteArray.data_extract, Array.toList_extract, List.extract_eq_take_drop]
theorem ba_eq {s t : ByteArray} (h : s.data.toList = t.data.toList) : s = t := by
  obtain ⟨⟨l⟩⟩ := s
  obtain ⟨⟨m⟩⟩ := t
  simp at h
  rw [h]
/-- 'strings.Cut' at a star. -/
theorem cut_star (a0 : ByteArray) (hd tl : List UInt8) (h : a0.data.toList = hd ++ 42 :: tl) (hn : (42 : UInt8) ∉ hd) (hs : a0.size ≤ 140737488351232) :
    strings_Cut.f a0 (⟨#[42]⟩ : ByteArray) = some (⟨hd.toArray⟩, ⟨tl.toArray⟩, true) := by
  have hl : hd.length + 1 + tl.length = a0.size := by rw [← data_len, h]; simp; omega
  have e : stringslite_Index.f a0 (⟨#[42]⟩ : ByteArray) = some (Lib.indexByte a0.data.toList 42) := rfl
  unfold strings_Cut.f stringslite_Cut.f
  rw [e, h, idx_some hd tl 42 hn]
  simp only [Option.bind_some]
  have hw : wrap64 ((hd.length : Int) + (((⟨#[42]⟩ : ByteArray).size : Nat) : Int)) = ((hd.length + 1 : Nat) : Int) := by
    rw [show (⟨#[42]⟩ : ByteArray).size = 1 from rfl, wrap64_id] <;> omega
  rw [if_pos (by omega), if_pos (by omega), if_pos (by omega), hw, if_pos (by omega), if_pos (by omega)]
  simp only [Option.bind_some]
  rw [show ((hd.length : Nat) : Int).toNat = hd.length from rfl, show ((hd.length + 1 : Nat) : Int).toNat = hd.length + 1 from rfl]
  have e1 : a0.extract 0 hd.length = ⟨hd.toArray⟩ := ba_eq (by rw [ext_list, h]; simp)
  have e2 : a0.extract (hd.length + 1) a0.size = ⟨tl.toArray⟩ := ba_eq (by
    rw [ext_list, h, show hd ++ 42 :: tl = (hd ++ [42]) ++ tl by simp, List.drop_left' (by simp), List.take_of_length_le (by omega)])
  rw [e1, e2]
theorem cut_plain (a0 : ByteArray) (hn : (42 : UInt8) ∉ a0.data.toList) : strings_Cut.f a0 (⟨#[42]⟩ : ByteArray) = some (a0, ⟨#[]⟩, false) := by
  have e : stringslite_Index.f a0 (⟨#[42]⟩ : ByteArray) = some (Lib.indexByte a0.data.toList 42) := rfl
  unfold strings_Cut.f stringslite_Cut.f
  rw [e, idx_none _ _ hn]
  rfl
theorem right_is (a0 : ByteArray) (hs : a0.size ≤ 140737488351232) : codec_right.f a0 = some (parseS a0.data.toList).isSome := by
  unfold codec_right.f
  by_cases h : (42 : UInt8) ∈ a0.data.toList
  · obtain ⟨hd, tl, h1, h2⟩ := cut_at _ _ h
    have hl : hd.length + 1 + tl.length = a0.size := by rw [← data_len, h1]; simp; omega
    rw [cut_star a0 hd tl h1 h2 hs, h1, parse_star hd tl h2]
    simp only [Option.bind_some]
    have e1 : (⟨hd.toArray⟩ : ByteArray).size = hd.length := by show hd.toArray.size = _; simp
    have e2 : (⟨tl.toArray⟩ : ByteArray).size = tl.length := by show tl.toArray.size = _; simp
    rw [if_pos (by rw [e1, e2]; omega)]
    have e3 : ((⟨hd.toArray⟩ : ByteArray) ++ (⟨tl.toArray⟩ : ByteArray)).data.toList = hd ++ tl := by rw [ByteArray.data_append]; simp
    have e4 : (⟨tl.toArray⟩ : ByteArray).toList = tl := by rw [toList_eq]
    rw [e3, e4]
    cases tl <;> cases (hd ++ _).all letB <;> rfl
  · rw [cut_plain a0 h, parse_plain _ h]
    simp only [Option.bind_some]
    have e0 : (⟨#[]⟩ : ByteArray).size = 0 := rfl
    rw [if_pos (by rw [e0]; omega)]
    have e3 : (a0 ++ (⟨#[]⟩ : ByteArray)).data.toList = a0.data.toList := by rw [ByteArray.data_append]; simp
    rw [e3]
    cases a0.data.toList.all letB <;> rfl
theorem num_is (s : ByteArray) (k : Int) (h1 : 1 ≤ k) (h3 : k ≤ 3) : codec_reader_number.f s 0 (rd sizTabI k) = if s.size < widthI k then some (0, s, 2) else some (((beNat (s.data.toList.take (widthI k)) : Nat) : Int), s.extract (widthI k) s.size, 0) := by
  have e : rd sizTabI k = ((widthI k : Nat) : Int) ∧ widthI k ≤ 8 := by
    have : k = 1 ∨ k = 2 ∨ k = 3 := by omega
    rcases this with rfl | rfl | rfl <;> exact ⟨rfl, by decide⟩
  unfold codec_reader_number.f
  rw [e.1]
  have h8 := e.2
  by_cases h : s.size < widthI k
  · rw [if_pos (by omega), if_pos h]
  · rw [if_neg (by omega), if_neg h, if_pos (by omega)]
    rfl
theorem text_is (s : ByteArray) (hs : s.size ≤ 1000000000000000) : codec_reader_text.f s 0 =
    if s.size < 4 then some (⟨#[]⟩, s, 2) else if 100000 < beNat (s.data.toList.take 4) then some (⟨#[]⟩, s.extract 4 s.size, 3) else
    if s.size - 4 < beNat (s.data.toList.take 4) then some (⟨#[]⟩, s.extract 4 s.size, 2) else
    some (s.extract 4 (4 + beNat (s.data.toList.take 4)), s.extract (4 + beNat (s.data.toList.take 4)) s.size, 0) := by
  unfold codec_reader_text.f codec_reader_number.f
  by_cases h : s.size < 4
  · rw [if_pos (by omega), if_pos h]
    rfl
  · rw [if_neg (by omega), if_neg h, if_pos (by omega)]
    simp only [Option.bind_some, show ((4 : Int)).toNat = 4 from rfl, if_true]
    have hz : (s.extract 4 s.size).size = s.size - 4 := by rw [ByteArray.size_extract]; omega
    obtain ⟨v, hv⟩ : ∃ v, v = beNat (s.data.toList.take 4) := ⟨_, rfl⟩
    rw [← hv]
    have hw : IntKind.u64.wrap (((s.extract 4 s.size).size : Nat) : Int) = ((s.size - 4 : Nat) : Int) := by
      rw [hz]
      show ((s.size - 4 : Nat) : Int) % 18446744073709551616 = _
      omega
    rw [hw, hz]
    by_cases h1 : 100000 < v
    · rw [if_pos (by omega), if_pos h1]
    · rw [if_neg (by omega), if_neg h1]
      by_cases h2 : s.size - 4 < v
      · rw [if_pos (by omega), if_pos h2]
      · rw [if_neg (by omega), if_neg h2, if_pos (by omega), if_pos (by omega)]
        have e1 : (s.extract 4 s.size).extract 0 ((v : Int)).toNat = s.extract 4 (4 + v) := ba_eq (by
          rw [show ((v : Int)).toNat = v from rfl, ext_list, ext_list, ext_list, List.drop_zero, List.take_take, Nat.sub_zero, show 4 + v - 4 = v by omega, Nat.min_eq_left (by omega)])
        have e2 : (s.extract 4 s.size).extract ((v : Int)).toNat (s.size - 4) = s.extract (4 + v) s.size := ba_eq (by
          rw [show ((v : Int)).toNat = v from rfl, ext_list, ext_list, ext_list, List.drop_take, List.drop_drop, List.take_take, Nat.min_eq_left (by omega), show s.size - 4 - v = s.size - (4 + v) by omega])
        rw [e1, e2]
theorem take_size {k : Int} {s : ByteArray} {x : S32} {s' : ByteArray} (h : takeS k s = .ok (x, s')) : s'.size ≤ s.size := by
  unfold takeS at h
  split at h
  · split at h
    · cases h
    · split at h
      · cases h
      · split at h
        · cases h
        · cases h
          rw [ByteArray.size_extract]; omega
  · split at h
    · cases h
    · cases h
      rw [ByteArray.size_extract]; omega
/-- One item of the program's loop. -/
theorem tail_is (k : Nat) (a0 : ByteArray) (st : Int) (out : List S32) (i : Nat) (s : ByteArray) (c : UInt8) (hi : i < a0.size) (hz : a0.size ≤ 140737488351232) (hc : a0.data.toList.getD i 0 = c) (hk : 1 ≤ kindI c) (ho : out.length ≤ 1000) (hs : s.size ≤ 1000000000000000) :
    codec_Decode.j4 (k + 2) a0 st out (i : Int) s 0 = if out.length = 1000 then some ([], 3) else match takeS (kindI c) s with
      | .error e => some ([], e)
      | .ok (x, s') => codec_Decode.l0 k a0 st (out ++ [x]) ((i + 1 : Nat) : Int) s' 0 := by
  have hr := kindI_range c
  have eb : strings_IndexByte.f (⟨#[98, 119, 108, 116]⟩ : ByteArray) (bt a0 (i : Int)) = some (kindI c - 1) := by
    rw [bt_get a0 i hi, hc]
    show some (Lib.indexByte [98, 119, 108, 116] (((c.toNat : Nat) : Int).toNat.toUInt8)) = _
    rw [toNat_toUInt8, idx_kind]
  simp only [codec_Decode.j4]
  rw [if_pos (by omega), if_pos (by omega), eb]
  simp only [Option.bind_some]
  rw [show (1 : Int) + (kindI c - 1) = kindI c by omega, wrap64_id (by omega) (by omega)]
  by_cases h0 : out.length = 1000
  · rw [if_pos (by omega), if_pos h0]
  · rw [if_neg (by omega), if_neg h0]
    have ew : wrap64 ((i : Int) + 1) = ((i + 1 : Nat) : Int) := by rw [wrap64_id] <;> omega
    by_cases h4 : kindI c = 4
    · rw [if_pos h4, text_is s hs, h4]
      unfold takeS
      rw [if_pos rfl]
      by_cases g1 : s.size < 4
      · rw [if_pos g1, if_pos g1]; simp [codec_Decode.j5]
      · rw [if_neg g1, if_neg g1]
        by_cases g2 : 100000 < beNat (s.data.toList.take 4)
        · rw [if_pos g2, if_pos g2]; simp [codec_Decode.j5]
        · rw [if_neg g2, if_neg g2]
          by_cases g3 : s.size - 4 < beNat (s.data.toList.take 4)
          · rw [if_pos g3, if_pos g3]; simp [codec_Decode.j5]
          · rw [if_neg g3, if_neg g3]
            simp only [Option.bind_some, codec_Decode.j5, if_true]
            rw [if_pos (by omega), ew]
    · rw [if_neg h4, if_pos (by omega), if_pos (by omega), num_is s (kindI c) hk (by omega)]
      unfold takeS
      rw [if_neg h4]
      by_cases g1 : s.size < widthI (kindI c)
      · rw [if_pos g1, if_pos g1]; simp [codec_Decode.j5]
      · rw [if_neg g1, if_neg g1]
        simp only [Option.bind_some, codec_Decode.j5, if_true]
        rw [if_pos (by omega), ew]
/-- Without a star. -/
theorem dec_plain (a0 : ByteArray) (hz : a0.size ≤ 140737488351232) (hl : a0.data.toList.all letB = true) (n : Nat) : ∀ (i : Nat) (out : List S32) (s : ByteArray) (k : Nat), out.length + n = 1000 → i ≤ a0.size → s.size ≤ 1000000000000000 → 6 * n + 8 ≤ k →
    codec_Decode.l0 k a0 (-1) out (i : Int) s 0 = some (decS [] n ((a0.data.toList.drop i).map kindI) out s) := by
  induction n with
  | zero =>
    intro i out s k ho hi hs hk
    obtain ⟨k, rfl⟩ : ∃ m, k = m + 6 := ⟨k - 6, by omega⟩
    have up : codec_Decode.l0 (k + 6) a0 (-1) out (i : Int) s 0 = codec_Decode.j4 (k + 2) a0 (-1) out (i : Int) s 0 := by
      by_cases h : (i : Int) = (a0.size : Int)
      · simp only [codec_Decode.l0, codec_Decode.j1, codec_Decode.j2, codec_Decode.j3]
        rw [if_pos h, show decide ((-1 : Int) ≥ 0) = false from rfl, if_neg (by decide), if_neg (by omega), if_neg (by decide)]
      · simp only [codec_Decode.l0, codec_Decode.j1, codec_Decode.j2, codec_Decode.j3]
        rw [if_neg h, if_neg (by decide), if_neg (by omega), if_neg (by decide)]
    rw [up]
    by_cases h : i = a0.size
    · subst h
      rw [List.drop_of_length_le (by rw [data_len]; exact Nat.le_refl _)]
      simp only [codec_Decode.j4, List.map_nil, decS, nextK]
      rw [if_neg (by omega)]
      split <;> rfl
    · have hlt : i < a0.data.toList.length := by rw [data_len]; omega
      have hg : a0.data.toList.getD i 0 = a0.data.toList[i] := by rw [List.getD_eq_getElem?_getD, List.getElem?_eq_getElem hlt]; rfl
      have hk1 := (letB_iff _).1 (List.all_eq_true.1 hl _ (List.getElem_mem hlt))
      rw [tail_is k a0 (-1) out i s _ (by omega) hz hg hk1 (by omega) hs, if_pos (by omega), List.drop_eq_getElem_cons hlt]
      rfl
  | succ n ih =>
    intro i out s k ho hi hs hk
    obtain ⟨k, rfl⟩ : ∃ m, k = m + 6 := ⟨k - 6, by omega⟩
    have up : codec_Decode.l0 (k + 6) a0 (-1) out (i : Int) s 0 = codec_Decode.j4 (k + 2) a0 (-1) out (i : Int) s 0 := by
      by_cases h : (i : Int) = (a0.size : Int)
      · simp only [codec_Decode.l0, codec_Decode.j1, codec_Decode.j2, codec_Decode.j3]
        rw [if_pos h, show decide ((-1 : Int) ≥ 0) = false from rfl, if_neg (by decide), if_neg (by omega), if_neg (by decide)]
      · simp only [codec_Decode.l0, codec_Decode.j1, codec_Decode.j2, codec_Decode.j3]
        rw [if_neg h, if_neg (by decide), if_neg (by omega), if_neg (by decide)]
    rw [up]
    by_cases h : i = a0.size
    · subst h
      rw [List.drop_of_length_le (by rw [data_len]; exact Nat.le_refl _)]
      simp only [codec_Decode.j4, List.map_nil, decS, nextK]
      rw [if_neg (by omega)]
      split <;> rfl
    · have hlt : i < a0.data.toList.length := by rw [data_len]; omega
      have hg : a0.data.toList.getD i 0 = a0.data.toList[i] := by rw [List.getD_eq_getElem?_getD, List.getElem?_eq_getElem hlt]; rfl
      have hk1 := (letB_iff _).1 (List.all_eq_true.1 hl _ (List.getElem_mem hlt))
      rw [tail_is k a0 (-1) out i s _ (by omega) hz hg hk1 (by omega) hs, if_neg (by omega), List.drop_eq_getElem_cons hlt]
      simp only [List.map_cons, decS, nextK]
      cases ht : takeS (kindI a0.data.toList[i]) s with
      | error e => rfl
      | ok p =>
        obtain ⟨x, s'⟩ := p
        simp only
        have := take_size ht
        exact ih (i + 1) (out ++ [x]) s' k (by simp; omega) (by omega) (by omega) (by omega)
theorem star_up (k : Nat) (a0 : ByteArray) (st : Nat) (out : List S32) (i : Nat) (s : ByteArray) (hst : st < a0.size) (hz : a0.size ≤ 140737488351232) (hi : i ≤ a0.size) :
    codec_Decode.l0 (k + 6) a0 (st : Int) out (i : Int) s 0 =
      if i = a0.size ∨ i = st then (if s.toList = ([] : List UInt8) then some (out, 0) else codec_Decode.j4 (k + 2) a0 (st : Int) out ((st + 1 : Nat) : Int) s 0) else codec_Decode.j4 (k + 2) a0 (st : Int) out (i : Int) s 0 := by
  have ew : wrap64 ((st : Int) + 1) = ((st + 1 : Nat) : Int) := by rw [wrap64_id] <;> omega
  have ed : decide ((st : Int) ≥ 0) = true := decide_eq_true (by omega)
  simp only [codec_Decode.l0, codec_Decode.j1, codec_Decode.j2, codec_Decode.j3]
  by_cases h : i = a0.size
  · rw [if_pos (by omega), ed, if_pos (Or.inl h)]
    simp only [if_true, ew]
  · rw [if_neg (show ¬ ((i : Int) = (a0.size : Int)) by omega), if_neg (by decide)]
    by_cases h2 : i = st
    · subst h2
      rw [ed, if_pos (Or.inr rfl)]
      simp only [if_true, ew]
    · rw [if_neg (by omega), if_neg (by decide), if_neg (by omega)]
/-- What stands from a place on till the star, or the end. -/
def curS (hd tl : List UInt8) (i : Nat) : List Int := if i ≤ hd.length then (hd.drop i).map kindI else (tl.drop (i - hd.length - 1)).map kindI
theorem curS_end (hd tl : List UInt8) (i : Nat) (h : i = hd.length + 1 + tl.length ∨ i = hd.length) : curS hd tl i = [] := by
  unfold curS
  rcases h with h | h
  · rw [if_neg (by omega), List.drop_of_length_le (by omega)]; rfl
  · rw [if_pos (by omega), List.drop_of_length_le (by omega)]; rfl
theorem curS_in (hd tl : List UInt8) (i : Nat) (h : i < hd.length + 1 + tl.length) (hn : i ≠ hd.length) : curS hd tl i = kindI ((hd ++ 42 :: tl).getD i 0) :: curS hd tl (i + 1) := by
  unfold curS
  by_cases h1 : i < hd.length
  · rw [if_pos (by omega), if_pos (by omega), List.drop_eq_getElem_cons h1, List.map_cons, List.getD_eq_getElem?_getD, List.getElem?_append_left h1, List.getElem?_eq_getElem h1]
    rfl
  · obtain ⟨j, rfl⟩ : ∃ j, i = hd.length + (j + 1) := ⟨i - hd.length - 1, by omega⟩
    have h2 : j < tl.length := by omega
    rw [if_neg (by omega), if_neg (by omega), show hd.length + (j + 1) - hd.length - 1 = j by omega, show hd.length + (j + 1) + 1 - hd.length - 1 = j + 1 by omega, List.drop_eq_getElem_cons h2, List.map_cons, List.getD_eq_getElem?_getD, List.getElem?_append_right (by omega),
      show hd.length + (j + 1) - hd.length = j + 1 by omega, List.getElem?_cons_succ, List.getElem?_eq_getElem h2]
    rfl
theorem letter_in (hd tl : List UInt8) (hl : (hd ++ tl).all letB = true) (i : Nat) (h : i < hd.length + 1 + tl.length) (hn : i ≠ hd.length) : 1 ≤ kindI ((hd ++ 42 :: tl).getD i 0) := by
  rw [List.all_append, Bool.and_eq_true] at hl
  refine (letB_iff _).1 ?_
  rw [List.getD_eq_getElem?_getD]
  by_cases h1 : i < hd.length
  · rw [List.getElem?_append_left h1, List.getElem?_eq_getElem h1]
    exact List.all_eq_true.1 hl.1 _ (List.getElem_mem h1)
  · obtain ⟨j, rfl⟩ : ∃ j, i = hd.length + (j + 1) := ⟨i - hd.length - 1, by omega⟩
    have h2 : j < tl.length := by omega
    rw [List.getElem?_append_right (by omega), show hd.length + (j + 1) - hd.length = j + 1 by omega, List.getElem?_cons_succ, List.getElem?_eq_getElem h2]
    exact List.all_eq_true.1 hl.2 _ (List.getElem_mem h2)
theorem dec_star (a0 : ByteArray) (hd tl : List UInt8) (hL : a0.data.toList = hd ++ 42 :: tl) (hz : a0.size ≤ 140737488351232) (hl : (hd ++ tl).all letB = true) (ht : tl ≠ []) (n : Nat) : ∀ (i : Nat) (out : List S32) (s : ByteArray) (k : Nat), out.length + n = 1000 → i ≤ a0.size → s.size ≤ 1000000000000000 → 6 * n + 8 ≤ k →
    codec_Decode.l0 k a0 (hd.length : Int) out (i : Int) s 0 = some (decS (tl.map kindI) n (curS hd tl i) out s) := by
  have hsz : a0.size = hd.length + 1 + tl.length := by rw [← data_len, hL]; simp; omega
  have htl : 0 < tl.length := List.length_pos_iff.2 ht
  induction n with
  | zero =>
    intro i out s k ho hi hs hk
    obtain ⟨k, rfl⟩ : ∃ m, k = m + 6 := ⟨k - 6, by omega⟩
    rw [star_up k a0 hd.length out i s (by omega) hz hi]
    by_cases h : i = a0.size ∨ i = hd.length
    · rw [if_pos h, curS_end hd tl i (by omega)]
      have hb : curS hd tl (hd.length + 1) = tl.map kindI := by unfold curS; rw [if_neg (by omega), show hd.length + 1 - hd.length - 1 = 0 by omega, List.drop_zero]
      have hc := curS_in hd tl (hd.length + 1) (by omega) (by omega)
      rw [hb] at hc
      rw [hc]
      simp only [decS, nextK]
      by_cases g : s.toList = ([] : List UInt8)
      · rw [if_pos g, if_pos g]
      · rw [if_neg g, if_neg g, tail_is k a0 _ out (hd.length + 1) s _ (by omega) hz rfl (by rw [hL]; exact letter_in hd tl hl _ (by omega) (by omega)) (by omega) hs, if_pos (by omega)]
    · rw [if_neg h, tail_is k a0 _ out i s _ (by omega) hz rfl (by rw [hL]; exact letter_in hd tl hl _ (by omega) (by omega)) (by omega) hs, if_pos (by omega), curS_in hd tl i (by omega) (by omega)]
      rfl
  | succ n ih =>
    intro i out s k ho hi hs hk
    obtain ⟨k, rfl⟩ : ∃ m, k = m + 6 := ⟨k - 6, by omega⟩
    rw [star_up k a0 hd.length out i s (by omega) hz hi]
    by_cases h : i = a0.size ∨ i = hd.length
    · rw [if_pos h, curS_end hd tl i (by omega)]
      have hb : curS hd tl (hd.length + 1) = tl.map kindI := by unfold curS; rw [if_neg (by omega), show hd.length + 1 - hd.length - 1 = 0 by omega, List.drop_zero]
      have hc := curS_in hd tl (hd.length + 1) (by omega) (by omega)
      rw [hb] at hc
      simp only [decS]
      rw [show nextK (tl.map kindI) [] s out = (if s.toList = ([] : List UInt8) then .inl (out, 0) else .inr (kindI ((hd ++ 42 :: tl).getD (hd.length + 1) 0), curS hd tl (hd.length + 1 + 1))) by rw [hc]; rfl]
      by_cases g : s.toList = ([] : List UInt8)
      · rw [if_pos g, if_pos g]
      · rw [if_neg g, if_neg g, tail_is k a0 _ out (hd.length + 1) s _ (by omega) hz rfl (by rw [hL]; exact letter_in hd tl hl _ (by omega) (by omega)) (by omega) hs, if_neg (by omega), hL]
        simp only
        cases hts : takeS (kindI ((hd ++ 42 :: tl).getD (hd.length + 1) 0)) s with
        | error e => rfl
        | ok p =>
          obtain ⟨x, s'⟩ := p
          simp only
          have := take_size hts
          exact ih (hd.length + 1 + 1) (out ++ [x]) s' k (by simp; omega) (by omega) (by omega) (by omega)
    · rw [if_neg h, tail_is k a0 _ out i s _ (by omega) hz rfl (by rw [hL]; exact letter_in hd tl hl _ (by omega) (by omega)) (by omega) hs, if_neg (by omega), curS_in hd tl i (by omega) (by omega), hL]
      simp only [decS, nextK]
      cases hts : takeS (kindI ((hd ++ 42 :: tl).getD i 0)) s with
      | error e => rfl
      | ok p =>
        obtain ⟨x, s'⟩ := p
        simp only
        have := take_size hts
        exact ih (i + 1) (out ++ [x]) s' k (by simp; omega) (by omega) (by omega) (by omega)
/-- The program's Decode, at every shape and text. -/
theorem decode_is (a0 s : ByteArray) (hz : a0.size ≤ 140737488351232) (hs : s.size ≤ 1000000000000000) (k : Nat) (hk : 6008 ≤ k) : codec_Decode.f k a0 s = some (decodeS a0.data.toList s) := by
  unfold codec_Decode.f decodeS
  rw [right_is a0 hz]
  simp only [Option.bind_some]
  have ei : strings_IndexByte.f a0 42 = some (Lib.indexByte a0.data.toList 42) := rfl
  by_cases h : (42 : UInt8) ∈ a0.data.toList
  · obtain ⟨hd, tl, h1, h2⟩ := cut_at _ _ h
    rw [ei, h1, parse_star hd tl h2, idx_some hd tl 42 h2]
    by_cases g : ((hd ++ tl).all letB && !tl.isEmpty) = true
    · rw [if_pos g]
      rw [Bool.and_eq_true] at g
      have gt : tl ≠ [] := by rintro rfl; simp at g
      have := dec_star a0 hd tl h1 hz g.1 gt 1000 0 [] s k (by simp) (by omega) hs (by omega)
      rw [show curS hd tl 0 = hd.map kindI by simp [curS]] at this
      exact this
    · rw [if_neg g]
      rfl
  · rw [ei, parse_plain _ h, idx_none _ _ h]
    by_cases g : a0.data.toList.all letB = true
    · rw [if_pos g]
      have := dec_plain a0 hz g 1000 0 [] s k (by simp) (by omega) hs (by omega)
      rw [List.drop_zero] at this
      exact this
    · rw [if_neg g]
      rfl
theorem decS_starB (b : List Int) (n : Nat) (out : List S32) (s : ByteArray) (hs : s.toList ≠ ([] : List UInt8)) (hb : b ≠ []) : decS b n [] out s = decS b n b out s := by
  cases b with
  | nil => exact absurd rfl hb
  | cons x xs =>
    cases n with
    | zero => simp only [decS, nextK]; rw [if_neg hs]
    | succ n => simp only [decS, nextK]; rw [if_neg hs]
theorem decS_doneB (b : List Int) (n : Nat) (out : List S32) (s : ByteArray) (hs : s.toList = ([] : List UInt8)) : decS b n [] out s = (out, 0) := by
  cases b with
  | nil =>
    cases n with
    | zero => simp only [decS, nextK]; rw [if_pos hs]
    | succ n => simp only [decS, nextK]; rw [if_pos hs]
  | cons x xs =>
    cases n with
    | zero => simp only [decS, nextK]; rw [if_pos hs]
    | succ n => simp only [decS, nextK]; rw [if_pos hs]
theorem takeS_errB {k : Int} {s : ByteArray} {e : Int} (h : takeS k s = .error e) : e ≠ 0 := by
  unfold takeS at h
  split at h
  · split at h
    · cases h; decide
    · split at h
      · cases h; decide
      · split at h
        · cases h; decide
        · cases h
  · split at h
    · cases h; decide
    · cases h
theorem takeS_some {k : Int} (h1 : 1 ≤ k) (h4 : k ≤ 4) {s : ByteArray} {p : S32 × ByteArray} (h : takeS k s = .ok p) : s.toList ≠ ([] : List UInt8) := by
  intro hs
  have hz : s.size = 0 := by rw [toList_eq] at hs; rw [← data_len, hs]; rfl
  unfold takeS widthI at h
  rw [hz] at h
  obtain rfl | rfl | rfl | rfl : k = 1 ∨ k = 2 ∨ k = 3 ∨ k = 4 := by omega
  all_goals simp at h
theorem dec_rep (b : List Int) (hb : b ≠ []) (kb : ∀ x ∈ b, 1 ≤ x ∧ x ≤ 4) : ∀ (n : Nat) (cur : List Int) (j : Nat) (out : List S32) (s : ByteArray) (l : List S32), decS [] n (cur ++ (List.replicate j b).flatten) out s = (l, 0) → decS b n cur out s = (l, 0) := by
  intro n
  induction n with
  | zero =>
    intro cur j out s l h
    cases cur with
    | cons k ks =>
      simp only [List.cons_append, decS, nextK] at h
      exact absurd (Prod.mk.inj h).2 (by decide)
    | nil =>
      cases j with
      | zero =>
        simp only [List.replicate_zero, List.flatten_nil, List.append_nil, decS, nextK] at h
        by_cases hs : s.toList = ([] : List UInt8)
        · rw [if_pos hs] at h
          rw [decS_doneB b 0 out s hs, h]
        · rw [if_neg hs] at h
          exact absurd (Prod.mk.inj h).2 (by decide)
      | succ j =>
        cases b with
        | nil => exact absurd rfl hb
        | cons k ks =>
          simp only [List.replicate_succ, List.flatten_cons, List.nil_append, List.cons_append, decS, nextK] at h
          exact absurd (Prod.mk.inj h).2 (by decide)
  | succ n ih =>
    intro cur j out s l h
    cases cur with
    | cons k ks =>
      simp only [List.cons_append, decS, nextK] at h ⊢
      cases ht : takeS k s with
      | error e =>
        rw [ht] at h
        exact absurd (Prod.mk.inj h).2 (takeS_errB ht)
      | ok p =>
        rw [ht] at h
        exact ih ks j _ _ l h
    | nil =>
      cases j with
      | zero =>
        simp only [List.replicate_zero, List.flatten_nil, List.append_nil, decS, nextK] at h
        by_cases hs : s.toList = ([] : List UInt8)
        · rw [if_pos hs] at h
          rw [decS_doneB b _ out s hs, h]
        · rw [if_neg hs] at h
          exact absurd (Prod.mk.inj h).2 (by decide)
      | succ j =>
        cases b with
        | nil => exact absurd rfl hb
        | cons k ks =>
          obtain ⟨k1, k4⟩ := kb k (List.mem_cons_self ..)
          simp only [List.replicate_succ, List.flatten_cons, List.nil_append, List.cons_append, decS, nextK] at h
          cases ht : takeS k s with
          | error e =>
            rw [ht] at h
            exact absurd (Prod.mk.inj h).2 (takeS_errB ht)
          | ok p =>
            rw [ht] at h
            rw [decS_starB (k :: ks) (n + 1) out s (takeS_some k1 k4 ht) hb]
            simp only [decS, nextK]
            rw [ht]
            exact ih ks j _ _ l h
theorem star_reads (A G : List UInt8) (nA : (42 : UInt8) ∉ A) (nG : (42 : UInt8) ∉ G) (hG : G ≠ []) (gl : G.all letB = true) (j : Nat) (s : ByteArray) (l : List S32) (h : decodeS (A ++ (List.replicate j G).flatten) s = (l, 0)) : decodeS (A ++ 42 :: G) s = (l, 0) := by
  have nR : (42 : UInt8) ∉ A ++ (List.replicate j G).flatten := by
    intro hm
    rcases List.mem_append.1 hm with hm | hm
    · exact nA hm
    · obtain ⟨x, hx, hm⟩ := List.mem_flatten.1 hm
      rw [(List.mem_replicate.1 hx).2] at hm
      exact nG hm
  unfold decodeS at h ⊢
  rw [parse_plain _ nR] at h
  rw [parse_star A G nA]
  by_cases hl : (A ++ (List.replicate j G).flatten).all letB = true
  · rw [if_pos hl] at h
    dsimp only at h
    have hA : A.all letB = true := by
      rw [List.all_append, Bool.and_eq_true] at hl
      exact hl.1
    have hE : G.isEmpty = false := by
      cases G with
      | nil => exact absurd rfl hG
      | cons x xs => rfl
    rw [if_pos (by rw [List.all_append, hA, gl, hE]; rfl)]
    dsimp only
    refine dec_rep _ (fun e => hG (List.map_eq_nil_iff.1 e)) (fun x hx => ?_) 1000 _ j [] s l ?_
    · obtain ⟨c, hc, rfl⟩ := List.mem_map.1 hx
      exact ⟨(letB_iff c).1 (List.all_eq_true.1 gl c hc), (kindI_range c).2⟩
    · rw [List.map_append, List.map_flatten, List.map_replicate] at h
      exact h
  · rw [if_neg hl] at h
    exact absurd (Prod.mk.inj h).2 (by decide)
theorem repeatL_flat (l : List UInt8) : ∀ c, Lib.repeatL l c = (List.replicate c l).flatten
  | 0 => rfl
  | c + 1 => by rw [List.replicate_succ, List.flatten_cons, ← repeatL_flat l c]; rfl
theorem idx_star (l : List UInt8) : (Lib.indexByte l 42 ≥ 0) = ((42 : UInt8) ∈ l) := by
  rw [eq_iff_iff]
  constructor
  · intro h
    by_cases hm : (42 : UInt8) ∈ l
    · exact hm
    · rw [idx_none l 42 hm] at h
      exact absurd h (by decide)
  · intro hm
    obtain ⟨hd, tl, rfl, hn⟩ := cut_at l 42 hm
    rw [idx_some hd tl 42 hn]
    omega
/-- A list's letters are right where the shape alone is none of those refused. -/
theorem letters_of {L : List UInt8} (hn : (42 : UInt8) ∉ L) (h : (decodeS L (⟨#[]⟩ : ByteArray)).2 ≠ 1) : L.all letB = true := by
  unfold decodeS at h
  rw [parse_plain L hn] at h
  by_cases hl : L.all letB = true
  · exact hl
  · rw [if_neg hl] at h
    exact absurd rfl h
end Go.Proofs.YthkncdnpfoccjaaDoor.P
