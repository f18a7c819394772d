/- The plain reading of items by a shape: what the document says ('decS'), and that the program's Decode comes to it. -/
import Derived.OpenShut
import Derived.Test.YtdpogggajdfedaaDoorPx15
import Derived.Test.YtdpogggajdfedaaDoorPx3
import Derived.Test.YtdpogggajdfedaaDoorPx6
import Derived.Test.YtdpogggajdfedaaDoorPx7
import Derived.Test.YtdpogggajdfedaaDoorPx8
import Derived.Test.YtdpogggajdfedaaDoorLinkB
namespace Go.Proofs.YtdpogggajdfedaaDoor.P
open Go.RowKit Go.Proofs.YtdpogggajdfedaaDoorW.PrintWords Go.Proofs.YtdpogggajdfedaaDoorW.PrintLast Go.Proofs.YtdpogggajdfedaaDoorW.PrintMore
set_option linter.unusedSimpArgs false
set_option linter.unusedVariables false
set_option maxRecDepth 100000
theorem wrap64_id {n : Int} (h0 : -9223372036854775808 ≤ n) (h1 : n < 9223372036854775808) : wrap64 n = n := by unfold wrap64; omega
theorem data_len (s : ByteArray) : s.data.toList.length = s.size := by rw [Array.length_toList]; rfl
theorem toList_eq (s : ByteArray) : s.toList = s.data.toList := (Lib.toList_data s)
theorem bt_get (s : ByteArray) (i : Nat) (h : i < s.size) : bt s (i : Int) = (((s.data.toList.getD i 0).toNat : Nat) : Int) := by
  have e : ((i : Int)).toNat = i := rfl
  unfold bt
  rw [dif_pos (by rw [e]; exact h), List.getD_eq_getElem?_getD, List.getElem?_eq_getElem (by rw [data_len]; exact h)]
  rfl
/-- A letter's kind. -/
def kindI (c : UInt8) : Int := if c = 98 then 1 else if c = 119 then 2 else if c = 108 then 3 else if c = 116 then 4 else 0
theorem kindI_range (c : UInt8) : 0 ≤ kindI c ∧ kindI c ≤ 4 := by unfold kindI; repeat' split <;> omega
theorem idx_kind (c : UInt8) : Lib.indexByte [98, 119, 108, 116] c = kindI c - 1 := by
  unfold kindI
  by_cases h1 : c = 98
  · subst h1; rfl
  by_cases h2 : c = 119
  · subst h2; rfl
  by_cases h3 : c = 108
  · subst h3; rfl
  by_cases h4 : c = 116
  · subst h4; rfl
  rw [if_neg h1, if_neg h2, if_neg h3, if_neg h4]
  have e1 : (98 == c) = false := by simpa using fun h => h1 h.symm
  have e2 : (119 == c) = false := by simpa using fun h => h2 h.symm
  have e3 : (108 == c) = false := by simpa using fun h => h3 h.symm
  have e4 : (116 == c) = false := by simpa using fun h => h4 h.symm
  simp [Lib.indexByte, e1, e2, e3, e4]
theorem letB_iff (c : UInt8) : letB c = true ↔ 1 ≤ kindI c := by
  unfold letB
  rw [idx_kind]
  simp only [Bool.not_eq_true', decide_eq_false_iff_not]
  omega
theorem idx_none (l : List UInt8) (c : UInt8) (h : c ∉ l) : Lib.indexByte l c = -1 := by
  induction l with
  | nil => rfl
  | cons b l ih =>
    simp only [List.mem_cons, not_or] at h
    have e : (b == c) = false := by simpa using fun x => h.1 x.symm
    simp [Lib.indexByte, e, ih h.2]
theorem idx_some (hd tl : List UInt8) (c : UInt8) (h : c ∉ hd) : Lib.indexByte (hd ++ c :: tl) c = hd.length := by
  induction hd with
  | nil => simp [Lib.indexByte]
  | cons b l ih =>
    simp only [List.mem_cons, not_or] at h
    have e : (b == c) = false := by simpa using fun x => h.1 x.symm
    have := ih h.2
    simp only [List.cons_append, Lib.indexByte, e, this]
    have : ((l.length : Int) == -1) = false := beq_eq_false_iff_ne.mpr (by omega)
    simp [this]
theorem cut_at (l : List UInt8) (c : UInt8) (h : c ∈ l) : ∃ hd tl, l = hd ++ c :: tl ∧ c ∉ hd := by
  induction l with
  | nil => simp at h
  | cons b l ih =>
    by_cases e : b = c
    · exact ⟨[], l, by simp [e], by simp⟩
    · have : c ∈ l := by simpa [Ne.symm e] using h
      obtain ⟨hd, tl, h1, h2⟩ := ih this
      exact ⟨b :: hd, tl, by rw [h1]; rfl, by simp [h2, Ne.symm e]⟩
/-- How many bytes a number of a kind has. -/
def widthI (k : Int) : Nat := if k = 1 then 1 else if k = 2 then 4 else if k = 3 then 8 else 0
/-- What is read of bytes by one kind: the item and the rest, or the error. -/
def takeS (k : Int) (s : ByteArray) : Except Int (S50 × ByteArray) :=
  if k = 4 then
    if s.size < 4 then .error 2 else
    if 100000 < beNat (s.data.toList.take 4) then .error 3 else
    if s.size - 4 < beNat (s.data.toList.take 4) then .error 2 else
    .ok (⟨4, 0, s.extract 4 (4 + beNat (s.data.toList.take 4))⟩, s.extract (4 + beNat (s.data.toList.take 4)) s.size)
  else if s.size < widthI k then .error 2 else
    .ok (⟨k, ((beNat (s.data.toList.take (widthI k)) : Nat) : Int), ⟨#[]⟩⟩, s.extract (widthI k) s.size)
/-- What comes next: the end, or a kind. -/
def nextK (b : List Int) : List Int → ByteArray → List S50 → (List S50 × Int) ⊕ (Int × List Int)
  | k :: ks, _, _ => .inr (k, ks)
  | [], s, out => match b with
    | [] => .inl (if s.toList = ([] : List UInt8) then (out, 0) else ([], 10))
    | k :: ks => if s.toList = ([] : List UInt8) then .inl (out, 0) else .inr (k, ks)
/-- The items, at most n more: cur: the kinds till the shape's end (or its star's), b: those behind a star. -/
def decS (b : List Int) : Nat → List Int → List S50 → ByteArray → List S50 × Int
  | 0, cur, out, s => match nextK b cur s out with
    | .inl r => r
    | .inr _ => ([], 3)
  | n + 1, cur, out, s => match nextK b cur s out with
    | .inl r => r
    | .inr (k, ks) => match takeS k s with
      | .error e => ([], e)
      | .ok (x, s') => decS b n ks (out ++ [x]) s'
/-- A shape's kinds: ahead of a star, behind it. -/
def parseS (L : List UInt8) : Option (List Int × List Int) :=
  if 42 ∈ L then
    (if ((L.takeWhile (fun c => c != 42)) ++ (L.dropWhile (fun c => c != 42)).drop 1).all letB && !((L.dropWhile (fun c => c != 42)).drop 1).isEmpty then some ((L.takeWhile (fun c => c != 42)).map kindI, ((L.dropWhile (fun c => c != 42)).drop 1).map kindI) else none)
  else if L.all letB then some (L.map kindI, []) else none
def decodeS (L : List UInt8) (s : ByteArray) : List S50 × Int := match parseS L with
  | none => ([], 1)
  | some (a, b) => decS b 1000 a [] s
theorem tw_cut (hd tl : List UInt8) (h : (42 : UInt8) ∉ hd) : (hd ++ 42 :: tl).takeWhile (fun c => c != 42) = hd ∧ (hd ++ 42 :: tl).dropWhile (fun c => c != 42) = 42 :: tl := by
  induction hd with
  | nil => simp
  | cons b l ih =>
    simp only [List.mem_cons, not_or] at h
    have e : (b != 42) = true := by simpa using fun x => h.1 x.symm
    have := ih h.2
    simp [List.takeWhile_cons, List.dropWhile_cons, e, this.1, this.2]
theorem parse_star (hd tl : List UInt8) (h : (42 : UInt8) ∉ hd) : parseS (hd ++ 42 :: tl) = if (hd ++ tl).all letB && !tl.isEmpty then some (hd.map kindI, tl.map kindI) else none := by
  unfold parseS
  rw [if_pos (by simp), (tw_cut hd tl h).1, (tw_cut hd tl h).2]
  rfl
theorem parse_plain (L : List UInt8) (h : (42 : UInt8) ∉ L) : parseS L = if L.all letB then some (L.map kindI, []) else none := by
  unfold parseS
  rw [if_neg h]
theorem ext_list (s : ByteArray) (i j : Nat) : (s.extract i j).data.toList = (s.data.toList.drop i).take (j - i) := by
  rw [ByteArray.data_extract, Array.toList_extract, List.extract_eq_take_drop]
theorem ba_eq {s t : ByteArray} (h : s.data.toList = t.data.toList) : s = t := by
  obtain ⟨⟨l⟩⟩ := s
  obtain ⟨⟨m⟩⟩ := t
  simp at h
  rw [h]
/-- 'strings.Cut' at a star. -/
theorem cut_star (a0 : ByteArray) (hd tl : List UInt8) (h : a0.data.toList = hd ++ 42 :: tl) (hn : (42 : UInt8) ∉ hd) (hs : a0.size ≤ 140737488351232) :
    strings_Cut.f a0 (⟨#[42]⟩ : ByteArray) = some (⟨hd.toArray⟩, ⟨tl.toArray⟩, true) := by
  have hl : hd.length + 1 + tl.length = a0.size := by rw [← data_len, h]; simp; omega
  have e : stringslite_Index.f a0 (⟨#[42]⟩ : ByteArray) = some (Lib.indexByte a0.data.toList 42) := rfl
  unfold strings_Cut.f stringslite_Cut.f
  rw [e, h, idx_some hd tl 42 hn]
  simp only [Option.bind_some]
  have hw : wrap64 ((hd.length : Int) + (((⟨#[42]⟩ : ByteArray).size : Nat) : Int)) = ((hd.length + 1 : Nat) : Int) := by
    rw [show (⟨#[42]⟩ : ByteArray).size = 1 from rfl, wrap64_id] <;> omega
  rw [if_pos (by omega), if_pos (by omega), if_pos (by omega), hw, if_pos (by omega), if_pos (by omega)]
  simp only [Option.bind_some]
  rw [show ((hd.length : Nat) : Int).toNat = hd.length from rfl, show ((hd.length + 1 : Nat) : Int).toNat = hd.length + 1 from rfl]
  have e1 : a0.extract 0 hd.length = ⟨hd.toArray⟩ := ba_eq (by rw [ext_list, h]; simp)
  have e2 : a0.extract (hd.length + 1) a0.size = ⟨tl.toArray⟩ := ba_eq (by
    rw [ext_list, h, show hd ++ 42 :: tl = (hd ++ [42]) ++ tl by simp, List.drop_left' (by simp), List.take_of_length_le (by omega)])
  rw [e1, e2]
theorem cut_plain (a0 : ByteArray) (hn : (42 : UInt8) ∉ a0.data.toList) : strings_Cut.f a0 (⟨#[42]⟩ : ByteArray) = some (a0, ⟨#[]⟩, false) := by
  have e : stringslite_Index.f a0 (⟨#[42]⟩ : ByteArray) = some (Lib.indexByte a0.data.toList 42) := rfl
  unfold strings_Cut.f stringslite_Cut.f
  rw [e, idx_none _ _ hn]
  rfl
theorem right_is (a0 : ByteArray) (hs : a0.size ≤ 140737488351232) : codec_right.f a0 = some (parseS a0.data.toList).isSome := by
  unfold codec_right.f
  by_cases h : (42 : UInt8) ∈ a0.data.toList
  · obtain ⟨hd, tl, h1, h2⟩ := cut_at _ _ h
    have hl : hd.length + 1 + tl.length = a0.size := by rw [← data_len, h1]; simp; omega
    rw [cut_star a0 hd tl h1 h2 hs, h1, parse_star hd tl h2]
    simp only [Option.bind_some]
    have e1 : (⟨hd.toArray⟩ : ByteArray).size = hd.length := by show hd.toArray.size = _; simp
    have e2 : (⟨tl.toArray⟩ : ByteArray).size = tl.length := by show tl.toArray.size = _; simp
    rw [if_pos (by rw [e1, e2]; omega)]
    have e3 : ((⟨hd.toArray⟩ : ByteArray) ++ (⟨tl.toArray⟩ : ByteArray)).data.toList = hd ++ tl := by rw [ByteArray.data_append]; simp
    have e4 : (⟨tl.toArray⟩ : ByteArray).toList = tl := by rw [toList_eq]
    rw [e3, e4]
    cases tl <;> cases (hd ++ _).all letB <;> rfl
  · rw [cut_plain a0 h, parse_plain _ h]
    simp only [Option.bind_some]
    have e0 : (⟨#[]⟩ : ByteArray).size = 0 := rfl
    rw [if_pos (by rw [e0]; omega)]
    have e3 : (a0 ++ (⟨#[]⟩ : ByteArray)).data.toList = a0.data.toList := by rw [ByteArray.data_append]; simp
    rw [e3]
    cases a0.data.toList.all letB <;> rfl
theorem num_is (s : ByteArray) (k : Int) (h1 : 1 ≤ k) (h3 : k ≤ 3) : codec_reader_number.f s 0 (rd sizTabI k) = if s.size < widthI k then some (0, s, 2) else some (((beNat (s.data.toList.take (widthI k)) : Nat) : Int), s.extract (widthI k) s.size, 0) := by
  have e : rd sizTabI k = ((widthI k : Nat) : Int) ∧ widthI k ≤ 8 := by
    have : k = 1 ∨ k = 2 ∨ k = 3 := by omega
    rcases this with rfl | rfl | rfl <;> exact ⟨rfl, by decide⟩
  unfold codec_reader_number.f
  rw [e.1]
  have h8 := e.2
  by_cases h : s.size < widthI k
  · rw [if_pos (by omega), if_pos h]
  · rw [if_neg (by omega), if_neg h, if_pos (by omega)]
    rfl
theorem text_is (s : ByteArray) (hs : s.size ≤ 1000000000000000) : codec_reader_text.f s 0 =
    if s.size < 4 then some (⟨#[]⟩, s, 2) else if 100000 < beNat (s.data.toList.take 4) then some (⟨#[]⟩, s.extract 4 s.size, 3) else
    if s.size - 4 < beNat (s.data.toList.take 4) then some (⟨#[]⟩, s.extract 4 s.size, 2) else
    some (s.extract 4 (4 + beNat (s.data.toList.take 4)), s.extract (4 + beNat (s.data.toList.take 4)) s.size, 0) := by
  unfold codec_reader_text.f codec_reader_number.f
  by_cases h : s.size < 4
  · rw [if_pos (by omega), if_pos h]
    rfl
  · rw [if_neg (by omega), if_neg h, if_pos (by omega)]
    simp only [Option.bind_some, show ((4 : Int)).toNat = 4 from rfl, if_true]
    have hz : (s.extract 4 s.size).size = s.size - 4 := by rw [ByteArray.size_extract]; omega
    obtain ⟨v, hv⟩ : ∃ v, v = beNat (s.data.toList.take 4) := ⟨_, rfl⟩
    rw [← hv]
    have hw : IntKind.u64.wrap (((s.extract 4 s.size).size : Nat) : Int) = ((s.size - 4 : Nat) : Int) := by
      rw [hz]
      show ((s.size - 4 : Nat) : Int) % 18446744073709551616 = _
      omega
    rw [hw, hz]
    by_cases h1 : 100000 < v
    · rw [if_pos (by omega), if_pos h1]
    · rw [if_neg (by omega), if_neg h1]
      by_cases h2 : s.size - 4 < v
      · rw [if_pos (by omega), if_pos h2]
      · rw [if_neg (by omega), if_neg h2, if_pos (by omega), if_pos (by omega)]
        have e1 : (s.extract 4 s.size).extract 0 ((v : Int)).toNat = s.extract 4 (4 + v) := ba_eq (by
          rw [show ((v : Int)).toNat = v from rfl, ext_list, ext_list, ext_list, List.drop_zero, List.take_take, Nat.sub_zero, show 4 + v - 4 = v by omega, Nat.min_eq_left (by omega)])
        have e2 : (s.extract 4 s.size).extract ((v : Int)).toNat (s.size - 4) = s.extract (4 + v) s.size := ba_eq (by
          rw [show ((v : Int)).toNat = v from rfl, ext_list, ext_list, ext_list, List.drop_take, List.drop_drop, List.take_take, Nat.min_eq_left (by omega), show s.size - 4 - v = s.size - (4 + v) by omega])
        rw [e1, e2]
theorem take_size {k : Int} {s : ByteArray} {x : S50} {s' : ByteArray} (h : takeS k s = .ok (x, s')) : s'.size ≤ s.size := by
  unfold takeS at h
  split at h
  · split at h
    · cases h
    · split at h
      · cases h
      · split at h
        · cases h
        · cases h
          rw [ByteArray.size_extract]; omega
  · split at h
    · cases h
    · cases h
      rw [ByteArray.size_extract]; omega
/-- One item of the program's loop. -/
theorem tail_is (k : Nat) (a0 : ByteArray) (st : Int) (out : List S50) (i : Nat) (s : ByteArray) (c : UInt8) (hi : i < a0.size) (hz : a0.size ≤ 140737488351232) (hc : a0.data.toList.getD i 0 = c) (hk : 1 ≤ kindI c) (ho : out.length ≤ 1000) (hs : s.size ≤ 1000000000000000) :
    codec_Decode.j4 (k + 2) a0 st out (i : Int) s 0 = if out.length = 1000 then some ([], 3) else match takeS (kindI c) s with
      | .error e => some ([], e)
      | .ok (x, s') => codec_Decode.l0 k a0 st (out ++ [x]) ((i + 1 : Nat) : Int) s' 0 := by
  have hr := kindI_range c
  have eb : strings_IndexByte.f (⟨#[98, 119, 108, 116]⟩ : ByteArray) (bt a0 (i : Int)) = some (kindI c - 1) := by
    rw [bt_get a0 i hi, hc]
    show some (Lib.indexByte [98, 119, 108, 116] (((c.toNat : Nat) : Int).toNat.toUInt8)) = _
    rw [toNat_toUInt8, idx_kind]
  simp only [codec_Decode.j4]
  rw [if_pos (by omega), if_pos (by omega), eb]
  simp only [Option.bind_some]
  rw [show (1 : Int) + (kindI c - 1) = kindI c by omega, wrap64_id (by omega) (by omega)]
  by_cases h0 : out.length = 1000
  · rw [if_pos (by omega), if_pos h0]
  · rw [if_neg (by omega), if_neg h0]
    have ew : wrap64 ((i : Int) + 1) = ((i + 1 : Nat) : Int) := by rw [wrap64_id] <;> omega
    by_cases h4 : kindI c = 4
    · rw [if_pos h4, text_is s hs, h4]
      unfold takeS
      rw [if_pos rfl]
      by_cases g1 : s.size < 4
      · rw [if_pos g1, if_pos g1]; simp [codec_Decode.j5]
      · rw [if_neg g1, if_neg g1]
        by_cases g2 : 100000 < beNat (s.data.toList.take 4)
        · rw [if_pos g2, if_pos g2]; simp [codec_Decode.j5]
        · rw [if_neg g2, if_neg g2]
          by_cases g3 : s.size - 4 < beNat (s.data.toList.take 4)
          · rw [if_pos g3, if_pos g3]; simp [codec_Decode.j5]
          · rw [if_neg g3, if_neg g3]
            simp only [Option.bind_some, codec_Decode.j5, if_true]
            rw [if_pos (by omega), ew]
    · rw [if_neg h4, if_pos (by omega), if_pos (by omega), num_is s (kindI c) hk (by omega)]
      unfold takeS
      rw [if_neg h4]
      by_cases g1 : s.size < widthI (kindI c)
      · rw [if_pos g1, if_pos g1]; simp [codec_Decode.j5]
      · rw [if_neg g1, if_neg g1]
        simp only [Option.bind_some, codec_Decode.j5, if_true]
        rw [if_pos (by omega), ew]
/-- Without a star. -/
theorem dec_plain (a0 : ByteArray) (hz : a0.size ≤ 140737488351232) (hl : a0.data.toList.all letB = true) (n : Nat) : ∀ (i : Nat) (out : List S50) (s : ByteArray) (k : Nat), out.length + n = 1000 → i ≤ a0.size → s.size ≤ 1000000000000000 → 6 * n + 8 ≤ k →
    codec_Decode.l0 k a0 (-1) out (i : Int) s 0 = some (decS [] n ((a0.data.toList.drop i).map kindI) out s) := by
  induction n with
  | zero =>
    intro i out s k ho hi hs hk
    obtain ⟨k, rfl⟩ : ∃ m, k = m + 6 := ⟨k - 6, by omega⟩
    have up : codec_Decode.l0 (k + 6) a0 (-1) out (i : Int) s 0 = codec_Decode.j4 (k + 2) a0 (-1) out (i : Int) s 0 := by
      by_cases h : (i : Int) = (a0.size : Int)
      · simp only [codec_Decode.l0, codec_Decode.j1, codec_Decode.j2, codec_Decode.j3]
        rw [if_pos h, show decide ((-1 : Int) ≥ 0) = false from rfl, if_neg (by decide), if_neg (by omega), if_neg (by decide)]
      · simp only [codec_Decode.l0, codec_Decode.j1, codec_Decode.j2, codec_Decode.j3]
        rw [if_neg h, if_neg (by decide), if_neg (by omega), if_neg (by decide)]
    rw [up]
    by_cases h : i = a0.size
    · subst h
      rw [List.drop_of_length_le (by rw [data_len]; exact Nat.le_refl _)]
      simp only [codec_Decode.j4, List.map_nil, decS, nextK]
      rw [if_neg (by omega)]
      split <;> rfl
    · have hlt : i < a0.data.toList.length := by rw [data_len]; omega
      have hg : a0.data.toList.getD i 0 = a0.data.toList[i] := by rw [List.getD_eq_getElem?_getD, List.getElem?_eq_getElem hlt]; rfl
      have hk1 := (letB_iff _).1 (List.all_eq_true.1 hl _ (List.getElem_mem hlt))
      rw [tail_is k a0 (-1) out i s _ (by omega) hz hg hk1 (by omega) hs, if_pos (by omega), List.drop_eq_getElem_cons hlt]
      rfl
  | succ n ih =>
    intro i out s k ho hi hs hk
    obtain ⟨k, rfl⟩ : ∃ m, k = m + 6 := ⟨k - 6, by omega⟩
    have up : codec_Decode.l0 (k + 6) a0 (-1) out (i : Int) s 0 = codec_Decode.j4 (k + 2) a0 (-1) out (i : Int) s 0 := by
      by_cases h : (i : Int) = (a0.size : Int)
      · simp only [codec_Decode.l0, codec_Decode.j1, codec_Decode.j2, codec_Decode.j3]
        rw [if_pos h, show decide ((-1 : Int) ≥ 0) = false from rfl, if_neg (by decide), if_neg (by omega), if_neg (by decide)]
      · simp only [codec_Decode.l0, codec_Decode.j1, codec_Decode.j2, codec_Decode.j3]
        rw [if_neg h, if_neg (by decide), if_neg (by omega), if_neg (by decide)]
    rw [up]
    by_cases h : i = a0.size
    · subst h
      rw [List.drop_of_length_le (by rw [data_len]; exact Nat.le_refl _)]
      simp only [codec_Decode.j4, List.map_nil, decS, nextK]
      rw [if_neg (by omega)]
      split <;> rfl
    · have hlt : i < a0.data.toList.length := by rw [data_len]; omega
      have hg : a0.data.toList.getD i 0 = a0.data.toList[i] := by rw [List.getD_eq_getElem?_getD, List.getElem?_eq_getElem hlt]; rfl
      have hk1 := (letB_iff _).1 (List.all_eq_true.1 hl _ (List.getElem_mem hlt))
      rw [tail_is k a0 (-1) out i s _ (by omega) hz hg hk1 (by omega) hs, if_neg (by omega), List.drop_eq_getElem_cons hlt]
      simp only [List.map_cons, decS, nextK]
      cases ht : takeS (kindI a0.data.toList[i]) s with
      | error e => rfl
      | ok p =>
        obtain ⟨x, s'⟩ := p
        simp only
        have := take_size ht
        exact ih (i + 1) (out ++ [x]) s' k (by simp; omega) (by omega) (by omega) (by omega)
theorem star_up (k : Nat) (a0 : ByteArray) (st : Nat) (out : List S50) (i : Nat) (s : ByteArray) (hst : st < a0.size) (hz : a0.size ≤ 140737488351232) (hi : i ≤ a0.size) :
    codec_Decode.l0 (k + 6) a0 (st : Int) out (i : Int) s 0 =
      if i = a0.size ∨ i = st then (if s.toList = ([] : List UInt8) then some (out, 0) else codec_Decode.j4 (k + 2) a0 (st : Int) out ((st + 1 : Nat) : Int) s 0) else codec_Decode.j4 (k + 2) a0 (st : Int) out (i : Int) s 0 := by
  have ew : wrap64 ((st : Int) + 1) = ((st + 1 : Nat) : Int) := by rw [wrap64_id] <;> omega
  have ed : decide ((st : Int) ≥ 0) = true := decide_eq_true (by omega)
  simp only [codec_Decode.l0, codec_Decode.j1, codec_Decode.j2, codec_Decode.j3]
  by_cases h : i = a0.size
  · rw [if_pos (by omega), ed, if_pos (Or.inl h)]
    simp only [if_true, ew]
  · rw [if_neg (show ¬ ((i : Int) = (a0.size : Int)) by omega), if_neg (by decide)]
    by_cases h2 : i = st
    · subst h2
      rw [ed, if_pos (Or.inr rfl)]
      simp only [if_true, ew]
    · rw [if_neg (by omega), if_neg (by decide), if_neg (by omega)]
/-- What stands from a place on till the star, or the end. -/
def curS (hd tl : List UInt8) (i : Nat) : List Int := if i ≤ hd.length then (hd.drop i).map kindI else (tl.drop (i - hd.length - 1)).map kindI
theorem curS_end (hd tl : List UInt8) (i : Nat) (h : i = hd.length + 1 + tl.length ∨ i = hd.length) : curS hd tl i = [] := by
  unfold curS
  rcases h with h | h
  · rw [if_neg (by omega), List.drop_of_length_le (by omega)]; rfl
  · rw [if_pos (by omega), List.drop_of_length_le (by omega)]; rfl
theorem curS_in (hd tl : List UInt8) (i : Nat) (h : i < hd.length + 1 + tl.length) (hn : i ≠ hd.length) : curS hd tl i = kindI ((hd ++ 42 :: tl).getD i 0) :: curS hd tl (i + 1) := by
  unfold curS
  by_cases h1 : i < hd.length
  · rw [if_pos (by omega), if_pos (by omega), List.drop_eq_getElem_cons h1, List.map_cons, List.getD_eq_getElem?_getD, List.getElem?_append_left h1, List.getElem?_eq_getElem h1]
    rfl
  · obtain ⟨j, rfl⟩ : ∃ j, i = hd.length + (j + 1) := ⟨i - hd.length - 1, by omega⟩
    have h2 : j < tl.length := by omega
    rw [if_neg (by omega), if_neg (by omega), show hd.length + (j + 1) - hd.length - 1 = j by omega, show hd.length + (j + 1) + 1 - hd.length - 1 = j + 1 by omega, List.drop_eq_getElem_cons h2, List.map_cons, List.getD_eq_getElem?_getD, List.getElem?_append_right (by omega),
      show hd.length + (j + 1) - hd.length = j + 1 by omega, List.getElem?_cons_succ, List.getElem?_eq_getElem h2]
    rfl
theorem letter_in (hd tl : List UInt8) (hl : (hd ++ tl).all letB = true) (i : Nat) (h : i < hd.length + 1 + tl.length) (hn : i ≠ hd.length) : 1 ≤ kindI ((hd ++ 42 :: tl).getD i 0) := by
  rw [List.all_append, Bool.and_eq_true] at hl
  refine (letB_iff _).1 ?_
  rw [List.getD_eq_getElem?_getD]
  by_cases h1 : i < hd.length
  · rw [List.getElem?_append_left h1, List.getElem?_eq_getElem h1]
    exact List.all_eq_true.1 hl.1 _ (List.getElem_mem h1)
  · obtain ⟨j, rfl⟩ : ∃ j, i = hd.length + (j + 1) := ⟨i - hd.length - 1, by omega⟩
    have h2 : j < tl.length := by omega
    rw [List.getElem?_append_right (by omega), show hd.length + (j + 1) - hd.length = j + 1 by omega, List.getElem?_cons_succ, List.getElem?_eq_getElem h2]
    exact List.all_eq_true.1 hl.2 _ (List.getElem_mem h2)
theorem dec_star (a0 : ByteArray) (hd tl : List UInt8) (hL : a0.data.toList = hd ++ 42 :: tl) (hz : a0.size ≤ 140737488351232) (hl : (hd ++ tl).all letB = true) (ht : tl ≠ []) (n : Nat) : ∀ (i : Nat) (out : List S50) (s : ByteArray) (k : Nat), out.length + n = 1000 → i ≤ a0.size → s.size ≤ 1000000000000000 → 6 * n + 8 ≤ k →
    codec_Decode.l0 k a0 (hd.length : Int) out (i : Int) s 0 = some (decS (tl.map kindI) n (curS hd tl i) out s) := by
  have hsz : a0.size = hd.length + 1 + tl.length := by rw [← data_len, hL]; simp; omega
  have htl : 0 < tl.length := List.length_pos_iff.2 ht
  induction n with
  | zero =>
    intro i out s k ho hi hs hk
    obtain ⟨k, rfl⟩ : ∃ m, k = m + 6 := ⟨k - 6, by omega⟩
    rw [star_up k a0 hd.length out i s (by omega) hz hi]
    by_cases h : i = a0.size ∨ i = hd.length
    · rw [if_pos h, curS_end hd tl i (by omega)]
      have hb : curS hd tl (hd.length + 1) = tl.map kindI := by unfold curS; rw [if_neg (by omega), show hd.length + 1 - hd.length - 1 = 0 by omega, List.drop_zero]
      have hc := curS_in hd tl (hd.length + 1) (by omega) (by omega)
      rw [hb] at hc
      rw [hc]
      simp only [decS, nextK]
      by_cases g : s.toList = ([] : List UInt8)
      · rw [if_pos g, if_pos g]
      · rw [if_neg g, if_neg g, tail_is k a0 _ out (hd.length + 1) s _ (by omega) hz rfl (by rw [hL]; exact letter_in hd tl hl _ (by omega) (by omega)) (by omega) hs, if_pos (by omega)]
    · rw [if_neg h, tail_is k a0 _ out i s _ (by omega) hz rfl (by rw [hL]; exact letter_in hd tl hl _ (by omega) (by omega)) (by omega) hs, if_pos (by omega), curS_in hd tl i (by omega) (by omega)]
      rfl
  | succ n ih =>
    intro i out s k ho hi hs hk
    obtain ⟨k, rfl⟩ : ∃ m, k = m + 6 := ⟨k - 6, by omega⟩
    rw [star_up k a0 hd.length out i s (by omega) hz hi]
    by_cases h : i = a0.size ∨ i = hd.length
    · rw [if_pos h, curS_end hd tl i (by omega)]
      have hb : curS hd tl (hd.length + 1) = tl.map kindI := by unfold curS; rw [if_neg (by omega), show hd.length + 1 - hd.length - 1 = 0 by omega, List.drop_zero]
      have hc := curS_in hd tl (hd.length + 1) (by omega) (by omega)
      rw [hb] at hc
      simp only [decS]
      rw [show nextK (tl.map kindI) [] s out = (if s.toList = ([] : List UInt8) then .inl (out, 0) else .inr (kindI ((hd ++ 42 :: tl).getD (hd.length + 1) 0), curS hd tl (hd.length + 1 + 1))) by rw [hc]; rfl]
      by_cases g : s.toList = ([] : List UInt8)
      · rw [if_pos g, if_pos g]
      · rw [if_neg g, if_neg g, tail_is k a0 _ out (hd.length + 1) s _ (by omega) hz rfl (by rw [hL]; exact letter_in hd tl hl _ (by omega) (by omega)) (by omega) hs, if_neg (by omega), hL]
        simp only
        cases hts : takeS (kindI ((hd ++ 42 :: tl).getD (hd.length + 1) 0)) s with
        | error e => rfl
        | ok p =>
          obtain ⟨x, s'⟩ := p
          simp only
          have := take_size hts
          exact ih (hd.length + 1 + 1) (out ++ [x]) s' k (by simp; omega) (by omega) (by omega) (by omega)
    · rw [if_neg h, tail_is k a0 _ out i s _ (by omega) hz rfl (by rw [hL]; exact letter_in hd tl hl _ (by omega) (by omega)) (by omega) hs, if_neg (by omega), curS_in hd tl i (by omega) (by omega), hL]
      simp only [decS, nextK]
      cases hts : takeS (kindI ((hd ++ 42 :: tl).getD i 0)) s with
      | error e => rfl
      | ok p =>
        obtain ⟨x, s'⟩ := p
        simp only
        have := take_size hts
        exact ih (i + 1) (out ++ [x]) s' k (by simp; omega) (by omega) (by omega) (by omega)
/-- The program's Decode, at every shape and text. -/
theorem decode_is (a0 s : ByteArray) (hz : a0.size ≤ 140737488351232) (hs : s.size ≤ 1000000000000000) (k : Nat) (hk : 6008 ≤ k) : codec_Decode.f k a0 s = some (decodeS a0.data.toList s) := by
  unfold codec_Decode.f decodeS
  rw [right_is a0 hz]
  simp only [Option.bind_some]
  have ei : strings_IndexByte.f a0 42 = some (Lib.indexByte a0.data.toList 42) := rfl
  by_cases h : (42 : UInt8) ∈ a0.data.toList
  · obtain ⟨hd, tl, h1, h2⟩ := cut_at _ _ h
    rw [ei, h1, parse_star hd tl h2, idx_some hd tl 42 h2]
    by_cases g : ((hd ++ tl).all letB && !tl.isEmpty) = true
    · rw [if_pos g]
      rw [Bool.and_eq_true] at g
      have gt : tl ≠ [] := by rintro rfl; simp at g
      have := dec_star a0 hd tl h1 hz g.1 gt 1000 0 [] s k (by simp) (by omega) hs (by omega)
      rw [show curS hd tl 0 = hd.map kindI by simp [curS]] at this
      exact this
    · rw [if_neg g]
      rfl
  · rw [ei, parse_plain _ h, idx_none _ _ h]
    by_cases g : a0.data.toList.all letB = true
    · rw [if_pos g]
      have := dec_plain a0 hz g 1000 0 [] s k (by simp) (by omega) hs (by omega)
      rw [List.drop_zero] at this
      exact this
    · rw [if_neg g]
      rfl
/-- A number as so many bytes. -/
def beI (v : Int) : Nat → List Int
  | 0 => []
  | n + 1 => (v / 256 ^ n) % 256 :: beI v n
theorem beI_length (v : Int) (n : Nat) : (beI v n).length = n := by
  induction n with
  | zero => rfl
  | succ n ih => simp [beI, ih]
/-- An item's bytes, or the error. -/
def encOne (x : S50) : Except Int (List Int) :=
  if x.f0 = 4 then (if x.f1 = 0 then (if 100000 < x.f2.size then .error 3 else .ok (beI (x.f2.size : Int) 4 ++ bytesOf x.f2)) else .error 1)
  else if 1 ≤ x.f0 ∧ x.f0 ≤ 3 then (if x.f2.toList = ([] : List UInt8) then (if 8 ≤ widthI x.f0 ∨ x.f1 / 256 ^ widthI x.f0 = 0 then .ok (beI x.f1 (widthI x.f0)) else .error 1) else .error 1)
  else .error 1
def encAll : List S50 → Except Int (List Int)
  | [] => .ok []
  | x :: xs => match encOne x with
    | .error e => .error e
    | .ok l => match encAll xs with
      | .error e => .error e
      | .ok m => .ok (l ++ m)
def encS (l : List S50) : ByteArray × Int := if 1000 < l.length then (⟨#[]⟩, 3) else match encAll l with
  | .error e => (⟨#[]⟩, e)
  | .ok m => (strOfNums m, 0)
theorem widthI_le (k : Int) : widthI k ≤ 8 := by
  unfold widthI
  by_cases h1 : k = 1
  · rw [if_pos h1]; decide
  · rw [if_neg h1]
    by_cases h2 : k = 2
    · rw [if_pos h2]; decide
    · rw [if_neg h2]
      by_cases h3 : k = 3
      · rw [if_pos h3]; decide
      · rw [if_neg h3]; decide
theorem encOne_len {x : S50} {l : List Int} (h : encOne x = .ok l) : l.length ≤ 100004 := by
  unfold encOne at h
  split at h
  · split at h
    · split at h
      · cases h
      · cases h
        rw [List.length_append, beI_length, bytesOf_length]; omega
    · cases h
  · split at h
    · split at h
      · split at h
        · cases h
          rw [beI_length]
          have := widthI_le x.f0
          omega
        · cases h
      · cases h
    · cases h
theorem put_is (v : Int) (m : Nat) : ∀ (k : Nat) (acc : List Int), m ≤ 8 → acc.length + m ≤ 1000000008 → codec_put.l0 (k + m + 1) acc v (8 * (m : Int) - 8) = some (acc ++ beI v m) := by
  induction m with
  | zero =>
    intro k acc _ _
    simp only [codec_put.l0]
    rw [if_neg (by omega)]
    simp [beI]
  | succ m ih =>
    intro k acc hm ha
    rw [show k + (m + 1) + 1 = (k + m + 1) + 1 by omega, codec_put.l0, if_pos (by omega), if_pos (by omega), if_pos (by omega)]
    have e1 : wrap64 (8 * ((m + 1 : Nat) : Int) - 8 - 8) = 8 * (m : Int) - 8 := by rw [wrap64_id] <;> omega
    have e2 : shr .u64 v (8 * ((m + 1 : Nat) : Int) - 8) = v / 256 ^ m := by
      unfold shr
      have : (8 * ((m + 1 : Nat) : Int) - 8).toNat = 8 * m := by omega
      rw [this, Nat.min_eq_left (by show 8 * m ≤ 64; omega), Int.pow_mul]
      rfl
    rw [e1, e2, ih k _ (by omega) (by simp; omega)]
    simp [beI]
theorem put_f (v : Int) (m : Nat) (k : Nat) (acc : List Int) (h1 : 1 ≤ m) (hm : m ≤ 8) (ha : acc.length ≤ 1000000000) (hk : 10 ≤ k) : codec_put.f k acc v (m : Int) = some (acc ++ beI v m) := by
  unfold codec_put.f
  rw [wrap64_id (n := (m : Int) - 1) (by omega) (by omega), wrap64_id (n := 8 * ((m : Int) - 1)) (by omega) (by omega), show 8 * ((m : Int) - 1) = 8 * (m : Int) - 8 by omega]
  have := put_is v m (k - m - 1) acc hm (by omega)
  rwa [show k - m - 1 + m + 1 = k by omega] at this
theorem rdT_nat (l : List S50) (i : Nat) (h : i < l.length) : rd_T50 l (i : Int) = l[i] := by
  unfold rd_T50
  rw [show ((i : Int)).toNat = i from rfl, List.getD_eq_getElem?_getD, List.getElem?_eq_getElem h]
  rfl
/-- Numbers of their kinds. -/
def WfI (x : S50) : Prop := 0 ≤ x.f1 ∧ x.f1 < 18446744073709551616 ∧ -9223372036854775808 ≤ x.f0 ∧ x.f0 ≤ 9223372036854775807 ∧ x.f2.size ≤ 140737488351232
theorem enc_loop (l : List S50) (hl : l.length ≤ 1000) (hw : ∀ x ∈ l, WfI x) (d : Nat) : ∀ (i : Nat) (acc : List Int) (k : Nat), i + d = l.length → acc.length ≤ i * 100004 → d + 12 ≤ k →
    codec_Encode.l0 k acc l (l.length : Int) (i : Int) = some (match encAll (l.drop i) with
      | .error e => (⟨#[]⟩, e)
      | .ok m => (strOfNums (acc ++ m), 0)) := by
  induction d with
  | zero =>
    intro i acc k hi ha hk
    obtain ⟨k, rfl⟩ : ∃ m, k = m + 1 := ⟨k - 1, by omega⟩
    simp only [codec_Encode.l0]
    rw [if_neg (by omega), List.drop_of_length_le (by omega)]
    simp [encAll]
  | succ d ih =>
    intro i acc k hi ha hk
    obtain ⟨k, rfl⟩ : ∃ m, k = m + 1 := ⟨k - 1, by omega⟩
    have hlt : i < l.length := by omega
    have ew : wrap64 ((i : Int) + 1) = ((i + 1 : Nat) : Int) := by rw [wrap64_id] <;> omega
    rw [List.drop_eq_getElem_cons hlt]
    simp only [codec_Encode.l0]
    rw [if_pos (by omega), if_pos (by omega), if_pos (by omega), rdT_nat l i hlt, ew]
    have hx := hw _ (List.getElem_mem hlt)
    generalize l[i] = x at hx ⊢
    have next : ∀ b : List Int, b.length ≤ 100004 → codec_Encode.l0 k (acc ++ b) l (l.length : Int) ((i + 1 : Nat) : Int) = some (match (match encAll (l.drop (i + 1)) with
        | .error e => (.error e : Except Int (List Int))
        | .ok m => .ok (b ++ m)) with
      | .error e => (⟨#[]⟩, e)
      | .ok m => (strOfNums (acc ++ m), 0)) := by
      intro b hb
      rw [ih (i + 1) (acc ++ b) k (by omega) (by simp; omega) (by omega)]
      cases encAll (l.drop (i + 1)) <;> simp
    simp only [encAll]
    unfold encOne
    by_cases h4 : x.f0 = 4
    · rw [if_neg (by omega), if_neg (by omega), if_pos h4, if_pos h4]
      by_cases h1 : x.f1 = 0
      · rw [if_pos h1, if_pos h1]
        by_cases hs : 100000 < x.f2.size
        · rw [if_pos (by omega), if_pos hs]
        · rw [if_neg (by omega), if_neg hs]
          have eu : IntKind.u64.wrap (x.f2.size : Int) = (x.f2.size : Int) := by show (x.f2.size : Int) % 18446744073709551616 = _; omega
          have p4 := put_f (x.f2.size : Int) 4 k acc (by decide) (by decide) (by omega) (by omega)
          rw [show ((4 : Nat) : Int) = 4 from rfl] at p4
          rw [eu, p4]
          simp only [Option.bind_some]
          rw [if_pos (by rw [List.length_append, beI_length]; omega), List.append_assoc]
          exact next _ (by rw [List.length_append, beI_length, bytesOf_length]; omega)
      · rw [if_neg h1, if_neg h1]
    · by_cases hr : 1 ≤ x.f0 ∧ x.f0 ≤ 3
      · rw [if_neg (by omega), if_neg (by omega), if_neg h4, if_neg h4, if_pos (by omega), if_pos (by omega), if_pos hr]
        have e : rd sizTabI x.f0 = ((widthI x.f0 : Nat) : Int) ∧ 1 ≤ widthI x.f0 ∧ widthI x.f0 ≤ 8 := by
          have : x.f0 = 1 ∨ x.f0 = 2 ∨ x.f0 = 3 := by omega
          rcases this with h | h | h <;> rw [h] <;> exact ⟨rfl, by decide, by decide⟩
        obtain ⟨e1, e2, e3⟩ := e
        rw [e1]
        by_cases h2 : x.f2.toList = ([] : List UInt8)
        · rw [if_pos h2, if_pos h2]
          have ep : ∀ k' : Nat, codec_put.f k acc x.f1 ((widthI x.f0 : Nat) : Int) = some (acc ++ beI x.f1 (widthI x.f0)) := fun _ => put_f _ _ k acc e2 e3 (by omega) (by omega)
          by_cases h8 : widthI x.f0 = 8
          · rw [if_neg (by omega), if_pos (.inl (by omega)), ep 0]
            simp only [Option.bind_some]
            exact next _ (by rw [beI_length]; omega)
          · have es : shr .u64 x.f1 (wrap64 (8 * ((widthI x.f0 : Nat) : Int))) = x.f1 / 256 ^ widthI x.f0 := by
              rw [wrap64_id (by omega) (by omega)]
              unfold shr
              have : (8 * ((widthI x.f0 : Nat) : Int)).toNat = 8 * widthI x.f0 := by omega
              rw [this, Nat.min_eq_left (by show 8 * widthI x.f0 ≤ 64; omega), Int.pow_mul]
              rfl
            have hq : 0 ≤ x.f1 / 256 ^ widthI x.f0 := Int.ediv_nonneg hx.1 (Int.pow_nonneg (by decide))
            rw [if_pos (by omega), if_pos (by rw [wrap64_id] <;> omega), es]
            by_cases h0 : x.f1 / 256 ^ widthI x.f0 = 0
            · rw [if_neg (by omega), if_pos (.inr h0), ep 0]
              simp only [Option.bind_some]
              exact next _ (by rw [beI_length]; omega)
            · rw [if_pos (by omega), if_neg (by rintro (h | h) <;> omega)]
        · rw [if_neg h2, if_neg h2]
      · by_cases hlo : x.f0 < 1
        · rw [if_pos hlo, if_neg h4, if_neg hr]
        · rw [if_neg hlo, if_pos (by omega), if_neg h4, if_neg hr]
/-- The program's Encode, at every list of items. -/
theorem encode_is (l : List S50) (hw : ∀ x ∈ l, WfI x) (k : Nat) (hk : 1012 ≤ k) : codec_Encode.f k l = some (encS l) := by
  unfold codec_Encode.f encS
  by_cases h : 1000 < l.length
  · rw [if_pos (by omega), if_pos h]
  · rw [if_neg (by omega), if_neg h]
    have := enc_loop l (by omega) hw l.length 0 [] k (by omega) (by simp) (by omega)
    rw [List.drop_zero] at this
    exact this
theorem beI_snoc (n : Nat) : ∀ v : Int, beI v (n + 1) = beI (v / 256) n ++ [v % 256] := by
  induction n with
  | zero => intro v; simp [beI]
  | succ n ih =>
    intro v
    rw [beI, ih v]
    show _ = ((v / 256) / 256 ^ n) % 256 :: beI (v / 256) n ++ [v % 256]
    rw [Int.pow_succ, Int.mul_comm, ← Int.ediv_ediv_of_nonneg (by decide)]
    rfl
/-- The bytes of some numbers. -/
def toU (l : List Int) : List UInt8 := l.map fun n => UInt8.ofNat n.toNat
theorem toU_append (a b : List Int) : toU (a ++ b) = toU a ++ toU b := by simp [toU]
theorem toU_length (a : List Int) : (toU a).length = a.length := by simp [toU]
theorem toU_bytes (s : ByteArray) : toU (bytesOf s) = s.data.toList := by
  unfold toU bytesOf
  rw [List.map_map]
  conv => rhs; rw [← List.map_id s.data.toList]
  apply List.map_congr_left
  intro c _
  simp
theorem son_data (l : List Int) : (strOfNums l).data.toList = toU l := strOfNums_data l
theorem beNat_beI (n : Nat) : ∀ v : Nat, beNat (toU (beI (v : Int) n)) = v % 256 ^ n := by
  induction n with
  | zero => intro v; simp [beI, toU, beNat, Nat.mod_one]
  | succ n ih =>
    intro v
    have e : toU (beI (v : Int) (n + 1)) = toU (beI ((v / 256 : Nat) : Int) n) ++ [UInt8.ofNat (v % 256)] := by
      rw [beI_snoc, toU_append]
      congr 1
    rw [e, beNat_snoc, ih, Nat.pow_succ, Nat.mul_comm (256 ^ n) 256, Nat.mod_mul]
    have : (UInt8.ofNat (v % 256)).toNat = v % 256 := by simp
    rw [this]
    omega
theorem ext_pre (s : ByteArray) (A B : List UInt8) (h : s.data.toList = A ++ B) : s.extract A.length s.size = ⟨B.toArray⟩ := by
  apply ba_eq
  rw [ext_list, h, List.drop_left]
  have : s.size = A.length + B.length := by rw [← data_len, h, List.length_append]
  rw [List.take_of_length_le (by omega)]
theorem ba_nil {s : ByteArray} (h : s.toList = ([] : List UInt8)) : s = ⟨#[]⟩ := ba_eq (by rw [← toList_eq, h])
/-- An item that is written is read, whatever stands behind it. -/
theorem take_enc {x : S50} (hx : WfI x) {l : List Int} (h : encOne x = .ok l) (s : ByteArray) (R : List UInt8) (hs : s.data.toList = toU l ++ R) : takeS x.f0 s = .ok (x, ⟨R.toArray⟩) := by
  obtain ⟨w0, w1, w2, w3, w4⟩ := hx
  have hz : s.size = l.length + R.length := by rw [← data_len, hs, List.length_append, toU_length]
  unfold encOne at h
  unfold takeS
  split at h
  · rename_i h4
    rw [if_pos h4]
    split at h
    · rename_i h1
      split at h
      · cases h
      · rename_i hl
        cases h
        rw [List.length_append, beI_length, bytesOf_length] at hz
        have e4 : s.data.toList.take 4 = toU (beI (x.f2.size : Int) 4) := by
          rw [hs, toU_append, List.append_assoc, List.take_left' (by rw [toU_length, beI_length])]
        have ev : beNat (s.data.toList.take 4) = x.f2.size := by
          rw [e4, beNat_beI, Nat.mod_eq_of_lt (by omega)]
        rw [ev, if_neg (by omega), if_neg (by omega), if_neg (by omega)]
        have e1 : s.extract 4 (4 + x.f2.size) = x.f2 := by
          apply ba_eq
          rw [ext_list, hs, toU_append, List.append_assoc, List.drop_left' (by rw [toU_length, beI_length]), toU_bytes, show 4 + x.f2.size - 4 = x.f2.size by omega, List.take_left' (data_len _)]
        have e2 : s.extract (4 + x.f2.size) s.size = ⟨R.toArray⟩ := by
          have := ext_pre s (toU (beI (x.f2.size : Int) 4 ++ bytesOf x.f2)) R hs
          rwa [toU_length, List.length_append, beI_length, bytesOf_length] at this
        rw [e1, e2]
        obtain ⟨f0, f1, f2⟩ := x
        simp only at h4 h1
        rw [h4, h1]
    · cases h
  · rename_i h4
    rw [if_neg h4]
    split at h
    · rename_i hr
      split at h
      · rename_i h2
        split at h
        · rename_i h8
          cases h
          rw [beI_length] at hz
          obtain ⟨v, hv⟩ : ∃ v : Nat, x.f1 = (v : Int) := ⟨x.f1.toNat, by omega⟩
          have hw : widthI x.f0 = 1 ∨ widthI x.f0 = 4 ∨ widthI x.f0 = 8 := by
            have : x.f0 = 1 ∨ x.f0 = 2 ∨ x.f0 = 3 := by omega
            rcases this with h | h | h <;> rw [h] <;> decide
          have e4 : s.data.toList.take (widthI x.f0) = toU (beI x.f1 (widthI x.f0)) := by
            rw [hs, List.take_left' (by rw [toU_length, beI_length])]
          have hlt : v < 256 ^ widthI x.f0 := by
            rw [hv] at h8 w1
            rcases hw with e | e | e <;> rw [e] at h8 ⊢
            · rcases h8 with h8 | h8
              · omega
              · have h8 : (v : Int) / 256 = 0 := h8
                omega
            · rcases h8 with h8 | h8
              · omega
              · have h8 : (v : Int) / 4294967296 = 0 := h8
                omega
            · omega
          have ev : beNat (s.data.toList.take (widthI x.f0)) = v := by
            rw [e4, hv, beNat_beI, Nat.mod_eq_of_lt hlt]
          have e2 : s.extract (widthI x.f0) s.size = ⟨R.toArray⟩ := by
            have := ext_pre s (toU (beI x.f1 (widthI x.f0))) R hs
            rwa [toU_length, beI_length] at this
          rw [ev, if_neg (by omega), e2, ← hv, ← ba_nil h2]
        · cases h
      · cases h
    · cases h
theorem beI_of (A : List UInt8) : toU (beI ((beNat A : Nat) : Int) A.length) = A := by
  have key : ∀ (n : Nat) (A : List UInt8), A.length = n → toU (beI ((beNat A : Nat) : Int) n) = A := by
    intro n
    induction n with
    | zero => intro A h; rw [List.length_eq_zero_iff.1 h]; rfl
    | succ n ih =>
      intro A h
      obtain ⟨B, c, rfl⟩ : ∃ B c, A = B ++ [c] := ⟨A.dropLast, A.getLast (by intro e; rw [e] at h; simp at h), (List.dropLast_concat_getLast _).symm⟩
      have hB : B.length = n := by simpa using h
      have hc := c.toNat_lt
      rw [beNat_snoc, beI_snoc, toU_append]
      have e1 : ((beNat B * 256 + c.toNat : Nat) : Int) / 256 = ((beNat B : Nat) : Int) := by omega
      have e2 : ((beNat B * 256 + c.toNat : Nat) : Int) % 256 = ((c.toNat : Nat) : Int) := by omega
      rw [e1, e2, ih B hB]
      congr 1
      simp [toU]
  exact key A.length A rfl
/-- An item that is read is written as it stood. -/
theorem enc_take {k : Int} (h1 : 1 ≤ k) (h4 : k ≤ 4) {s : ByteArray} (hz : s.size ≤ 1000000000000000) {x : S50} {s' : ByteArray} (h : takeS k s = .ok (x, s')) :
    ∃ l, encOne x = .ok l ∧ s.data.toList = toU l ++ s'.data.toList ∧ WfI x ∧ x.f0 = k ∧ 0 < l.length := by
  have hr := take_size h
  unfold takeS at h
  split at h
  · rename_i hk
    split at h
    · cases h
    · rename_i g1
      split at h
      · cases h
      · rename_i g2
        split at h
        · cases h
        · rename_i g3
          cases h
          obtain ⟨v, hv⟩ : ∃ v, beNat (s.data.toList.take 4) = v := ⟨_, rfl⟩
          rw [hv] at g2 g3 ⊢
          have hs2 : (s.extract 4 (4 + v)).size = v := by rw [ByteArray.size_extract]; omega
          refine ⟨beI ((v : Nat) : Int) 4 ++ bytesOf (s.extract 4 (4 + v)), ?_, ?_, ⟨?_, ?_, ?_, ?_, ?_⟩, hk.symm, by rw [List.length_append, beI_length]; omega⟩
          · unfold encOne
            rw [if_pos rfl, if_pos rfl, hs2, if_neg (by omega)]
          · rw [toU_append, toU_bytes, ← hv]
            have := beI_of (s.data.toList.take 4)
            rw [List.length_take, data_len, Nat.min_eq_left (by omega)] at this
            rw [this, hv, ext_list, ext_list, show 4 + v - 4 = v by omega, List.append_assoc]
            conv => lhs; rw [← List.take_append_drop 4 s.data.toList]
            congr 1
            conv => lhs; rw [← List.take_append_drop v (s.data.toList.drop 4)]
            congr 1
            rw [List.drop_drop, List.take_of_length_le]
            rw [List.length_drop, data_len]
            exact Nat.le_refl _
          · exact Int.le_refl _
          · show (0 : Int) < 18446744073709551616
            decide
          · show (-9223372036854775808 : Int) ≤ 4
            decide
          · show (4 : Int) ≤ 9223372036854775807
            decide
          · rw [hs2]; omega
  · rename_i hk
    split at h
    · cases h
    · rename_i g1
      cases h
      have hw : (widthI k = 1 ∨ widthI k = 4 ∨ widthI k = 8) ∧ (1 ≤ k ∧ k ≤ 3) := by
        have : k = 1 ∨ k = 2 ∨ k = 3 := by omega
        rcases this with h | h | h <;> subst h <;> decide
      have hb := beNat_lt (s.data.toList.take (widthI k))
      rw [List.length_take, data_len, Nat.min_eq_left (by omega)] at hb
      obtain ⟨v, hv⟩ : ∃ v, beNat (s.data.toList.take (widthI k)) = v := ⟨_, rfl⟩
      rw [hv] at hb ⊢
      refine ⟨beI ((v : Nat) : Int) (widthI k), ?_, ?_, ⟨?_, ?_, ?_, ?_, ?_⟩, rfl, by rw [beI_length]; omega⟩
      · unfold encOne
        rw [if_neg hk, if_pos hw.2, if_pos (by rw [toList_eq])]
        rcases hw.1 with e | e | e <;> rw [e] at hb ⊢
        · have : ((v : Nat) : Int) / 256 ^ 1 = 0 := by show ((v : Nat) : Int) / 256 = 0; omega
          rw [if_pos (.inr this)]
        · have : ((v : Nat) : Int) / 256 ^ 4 = 0 := by show ((v : Nat) : Int) / 4294967296 = 0; omega
          rw [if_pos (.inr this)]
        · rw [if_pos (.inl (by decide))]
      · rw [← hv]
        have := beI_of (s.data.toList.take (widthI k))
        rw [List.length_take, data_len, Nat.min_eq_left (by omega)] at this
        rw [this, ext_list]
        conv => lhs; rw [← List.take_append_drop (widthI k) s.data.toList]
        congr 1
        rw [List.take_of_length_le]
        rw [List.length_drop, data_len]
        exact Nat.le_refl _
      · show (0 : Int) ≤ (v : Int)
        omega
      · show ((v : Nat) : Int) < 18446744073709551616
        rcases hw.1 with e | e | e <;> rw [e] at hb <;> omega
      · show -9223372036854775808 ≤ k
        omega
      · show k ≤ 9223372036854775807
        omega
      · show (⟨#[]⟩ : ByteArray).size ≤ _
        decide
theorem encAll_append (a b : List S50) : encAll (a ++ b) = match encAll a with
    | .error e => .error e
    | .ok l => match encAll b with
      | .error e => .error e
      | .ok m => .ok (l ++ m) := by
  induction a with
  | nil => simp only [List.nil_append, encAll]; cases encAll b <;> simp
  | cons x a ih =>
    simp only [List.cons_append, encAll, ih]
    cases encOne x with
    | error e => rfl
    | ok l =>
      cases encAll a with
      | error e => rfl
      | ok m =>
        simp only
        cases encAll b <;> simp
/-- Items that are written, and whatever stands behind them, by their kinds. -/
theorem dec_enc (b : List Int) (R : List UInt8) : ∀ (l : List S50) (m : List Int) (n : Nat) (cur : List Int) (out : List S50) (s : ByteArray), (∀ x ∈ l, WfI x) → encAll l = .ok m → l.length ≤ n → s.data.toList = toU m ++ R →
    decS b n (l.map (·.f0) ++ cur) out s = decS b (n - l.length) cur (out ++ l) ⟨R.toArray⟩ := by
  intro l
  induction l with
  | nil =>
    intro m n cur out s _ h _ hs
    cases h
    have : s = ⟨R.toArray⟩ := ba_eq (by rw [hs]; rfl)
    rw [this]
    simp
  | cons x l ih =>
    intro m n cur out s hw h hn hs
    simp only [encAll] at h
    cases he : encOne x with
    | error e => rw [he] at h; cases h
    | ok a =>
      rw [he] at h
      cases ha : encAll l with
      | error e => rw [ha] at h; cases h
      | ok c =>
        rw [ha] at h
        cases h
        obtain ⟨n, rfl⟩ : ∃ q, n = q + 1 := ⟨n - 1, by simp at hn; omega⟩
        rw [toU_append, List.append_assoc] at hs
        have ht := take_enc (hw x (by simp)) he s _ hs
        simp only [List.map_cons, List.cons_append, decS, nextK, ht]
        rw [ih c n cur (out ++ [x]) _ (fun y hy => hw y (by simp [hy])) ha (by simpa using hn) rfl]
        simp [Nat.add_sub_add_right]
theorem encOne_pos {x : S50} {l : List Int} (h : encOne x = .ok l) : 0 < l.length := by
  unfold encOne at h
  split at h
  · split at h
    · split at h
      · cases h
      · cases h
        rw [List.length_append, beI_length]; omega
    · cases h
  · split at h
    · rename_i hr
      split at h
      · split at h
        · cases h
          rw [beI_length]
          have : x.f0 = 1 ∨ x.f0 = 2 ∨ x.f0 = 3 := by omega
          rcases this with h | h | h <;> rw [h] <;> decide
        · cases h
      · cases h
    · cases h
theorem encOne_kind {x : S50} {l : List Int} (h : encOne x = .ok l) : 1 ≤ x.f0 ∧ x.f0 ≤ 4 := by
  unfold encOne at h
  split at h
  · omega
  · split at h
    · omega
    · cases h
/-- What was read is written as it stood; its kinds are the shape's. -/
theorem enc_dec (b : List Int) (kb : ∀ x ∈ b, 1 ≤ x ∧ x ≤ 4) (n : Nat) : ∀ (cur : List Int) (out : List S50) (s : ByteArray) (l : List S50), (∀ x ∈ cur, 1 ≤ x ∧ x ≤ 4) → s.size ≤ 1000000000000000 → decS b n cur out s = (l, 0) →
    ∃ m e, l = out ++ m ∧ encAll m = .ok e ∧ s.data.toList = toU e ∧ (∀ x ∈ m, WfI x) ∧ m.length ≤ n ∧ ∃ j, m.map (·.f0) = cur ++ (List.replicate j b).flatten := by
  induction n with
  | zero =>
    intro cur out s l kc hs h
    cases cur with
    | nil =>
      cases b with
      | nil =>
        simp only [decS, nextK] at h
        by_cases g : s.toList = ([] : List UInt8)
        · rw [if_pos g] at h
          cases h
          exact ⟨[], [], by simp, rfl, by rw [← toList_eq, g]; rfl, by simp, by simp, 0, by simp⟩
        · rw [if_neg g] at h
          cases h
      | cons k ks =>
        simp only [decS, nextK] at h
        by_cases g : s.toList = ([] : List UInt8)
        · rw [if_pos g] at h
          cases h
          exact ⟨[], [], by simp, rfl, by rw [← toList_eq, g]; rfl, by simp, by simp, 0, by simp⟩
        · rw [if_neg g] at h
          cases h
    | cons k ks => cases h
  | succ n ih =>
    intro cur out s l kc hs h
    have arm : ∀ (k : Int) (ks : List Int) (hk : 1 ≤ k ∧ k ≤ 4) (hks : ∀ x ∈ ks, 1 ≤ x ∧ x ≤ 4), (match takeS k s with
        | Except.error e => (([] : List S50), e)
        | Except.ok (x, s') => decS b n ks (out ++ [x]) s') = (l, 0) →
        ∃ m e, l = out ++ m ∧ encAll m = .ok e ∧ s.data.toList = toU e ∧ (∀ x ∈ m, WfI x) ∧ m.length ≤ n + 1 ∧ ∃ j, m.map (·.f0) = (k :: ks) ++ (List.replicate j b).flatten := by
      intro k ks hk hks h
      cases ht : takeS k s with
      | error e =>
        rw [ht] at h
        simp only [Prod.mk.injEq] at h
        exfalso
        have h0 := h.2
        unfold takeS at ht
        split at ht
        · split at ht
          · cases ht; exact absurd h0 (by decide)
          · split at ht
            · cases ht; exact absurd h0 (by decide)
            · split at ht
              · cases ht; exact absurd h0 (by decide)
              · cases ht
        · split at ht
          · cases ht; exact absurd h0 (by decide)
          · cases ht
      | ok p =>
        obtain ⟨x, s'⟩ := p
        rw [ht] at h
        simp only at h
        have hz := take_size ht
        obtain ⟨a, ha, hsa, hw, hf, _⟩ := enc_take hk.1 hk.2 hs ht
        obtain ⟨m, e, h1, h2, h3, h4, h5, j, h6⟩ := ih ks (out ++ [x]) s' l hks (by omega) h
        refine ⟨x :: m, a ++ e, by rw [h1]; simp, ?_, by rw [toU_append, hsa, h3], ?_, by simp; omega, j, by simp [hf, h6]⟩
        · simp only [encAll, ha, h2]
        · intro y hy
          rcases List.mem_cons.1 hy with rfl | hy
          · exact hw
          · exact h4 y hy
    cases cur with
    | nil =>
      cases hb : b with
      | nil =>
        rw [hb] at h
        simp only [decS, nextK] at h
        by_cases g : s.toList = ([] : List UInt8)
        · rw [if_pos g] at h
          cases h
          exact ⟨[], [], by simp, rfl, by rw [← toList_eq, g]; rfl, by simp, by simp, 0, by simp⟩
        · rw [if_neg g] at h
          cases h
      | cons k ks =>
        have hn : nextK b [] s out = if s.toList = ([] : List UInt8) then .inl (out, 0) else .inr (k, ks) := by rw [hb]; rfl
        simp only [decS, hn] at h
        by_cases g : s.toList = ([] : List UInt8)
        · rw [if_pos g] at h
          cases h
          exact ⟨[], [], by simp, rfl, by rw [← toList_eq, g]; rfl, by simp, by simp, 0, by simp⟩
        · rw [if_neg g] at h
          obtain ⟨m, e, h1, h2, h3, h4, h5, j, h6⟩ := arm k ks (kb k (by rw [hb]; simp)) (fun x hx => kb x (by rw [hb]; simp [hx])) h
          exact ⟨m, e, h1, h2, h3, h4, h5, j + 1, by rw [h6, ← hb, List.replicate_succ]; simp⟩
    | cons k ks => exact arm k ks (kc k (by simp)) (fun x hx => kc x (by simp [hx])) h
theorem encOne_err {x : S50} {e : Int} (h : encOne x = .error e) : e = 1 ∨ e = 3 := by
  unfold encOne at h
  repeat' split at h
  all_goals first | (cases h; omega) | cases h
theorem encAll_err (l : List S50) : ∀ e, encAll l = .error e → e = 1 ∨ e = 3 := by
  induction l with
  | nil => intro e h; cases h
  | cons x xs ih =>
    intro e h
    simp only [encAll] at h
    cases h1 : encOne x with
    | error e1 => rw [h1] at h; cases h; exact encOne_err h1
    | ok a =>
      rw [h1] at h
      cases h2 : encAll xs with
      | error e2 => rw [h2] at h; cases h; exact ih _ h2
      | ok b => rw [h2] at h; cases h
/-- Written, or refused: then it is empty. -/
theorem encS_cases (l : List S50) : (∃ m, encAll l = .ok m ∧ l.length ≤ 1000 ∧ encS l = (strOfNums m, 0)) ∨ (∃ e, (e = 1 ∨ e = 3) ∧ encS l = (⟨#[]⟩, e)) := by
  unfold encS
  by_cases h : 1000 < l.length
  · exact .inr ⟨3, .inr rfl, by rw [if_pos h]⟩
  · rw [if_neg h]
    cases h1 : encAll l with
    | error e => exact .inr ⟨e, encAll_err l e h1, rfl⟩
    | ok m => exact .inl ⟨m, rfl, by omega, rfl⟩
theorem son_size (m : List Int) : (strOfNums m).size = m.length := by rw [← data_len, son_data, toU_length]
theorem decS_bad (b : List Int) (n : Nat) : ∀ (cur : List Int) (out : List S50) (s : ByteArray), (decS b n cur out s).2 ≠ 0 → (decS b n cur out s).1 = [] := by
  induction n with
  | zero =>
    intro cur out s
    cases cur with
    | nil =>
      cases b with
      | nil => simp only [decS, nextK]; split <;> simp
      | cons x xs => simp only [decS, nextK]; by_cases g : s.toList = ([] : List UInt8) <;> simp [g]
    | cons x xs => simp [decS, nextK]
  | succ n ih =>
    intro cur out s
    have arm : ∀ (k : Int) (ks : List Int), (match takeS k s with
        | Except.error e => (([] : List S50), e)
        | Except.ok (x, s') => decS b n ks (out ++ [x]) s').2 ≠ 0 → (match takeS k s with
        | Except.error e => (([] : List S50), e)
        | Except.ok (x, s') => decS b n ks (out ++ [x]) s').1 = [] := by
      intro k ks
      cases takeS k s with
      | error e => simp
      | ok p => exact ih ks _ _
    cases cur with
    | nil =>
      cases b with
      | nil => simp only [decS, nextK]; split <;> simp
      | cons x xs =>
        simp only [decS, nextK]
        by_cases g : s.toList = ([] : List UInt8)
        · simp [g]
        · rw [if_neg g]; exact arm x xs
    | cons x xs => exact arm x xs
theorem decodeS_bad (L : List UInt8) (s : ByteArray) (h : (decodeS L s).2 ≠ 0) : (decodeS L s).1 = [] := by
  unfold decodeS at h ⊢
  split
  · rfl
  · rename_i a b hp
    rw [hp] at h
    exact decS_bad b 1000 a [] s h
theorem kindsOkK {L : List UInt8} (h : L.all letB = true) : ∀ x ∈ L.map kindI, 1 ≤ x ∧ x ≤ 4 := by
  intro x hx
  obtain ⟨c, hc, rfl⟩ := List.mem_map.1 hx
  exact ⟨(letB_iff c).1 (List.all_eq_true.1 h c hc), (kindI_range c).2⟩
theorem parse_kindsK {L : List UInt8} {a b : List Int} (h : parseS L = some (a, b)) : (∀ x ∈ a, 1 ≤ x ∧ x ≤ 4) ∧ (∀ x ∈ b, 1 ≤ x ∧ x ≤ 4) := by
  unfold parseS at h
  split at h
  · split at h
    · rename_i hc
      cases h
      rw [Bool.and_eq_true, List.all_append, Bool.and_eq_true] at hc
      exact ⟨kindsOkK hc.1.1, kindsOkK hc.1.2⟩
    · cases h
  · split at h
    · rename_i hc
      cases h
      exact ⟨kindsOkK hc, by simp⟩
    · cases h
/-- What was read is written as it stood. -/
theorem decode_back {L : List UInt8} {s : ByteArray} {l : List S50} (hs : s.size ≤ 1000000000000000) (h : decodeS L s = (l, 0)) : ∃ e, encAll l = .ok e ∧ s = strOfNums e ∧ (∀ x ∈ l, WfI x) ∧ l.length ≤ 1000 := by
  unfold decodeS at h
  split at h
  · cases h
  · rename_i a b hp
    obtain ⟨ka, kb⟩ := parse_kindsK hp
    obtain ⟨m, e, rfl, h1, h2, h3, h4, _⟩ := enc_dec b kb 1000 a [] s l ka hs h
    exact ⟨e, h1, ba_eq (by rw [h2, son_data]), h3, h4⟩
theorem encS_of {l : List S50} {m : List Int} (h : encAll l = .ok m) (hl : l.length ≤ 1000) : encS l = (strOfNums m, 0) := by
  unfold encS
  rw [if_neg (by omega), h]
/-- A beginning of what is written of an item is too short. -/
theorem take_cut {x : S50} {a : List Int} (h : encOne x = .ok a) (s : ByteArray) (c : Nat) (hc : c < a.length) (hs : s.data.toList = (toU a).take c) : takeS x.f0 s = .error 2 := by
  have hz : s.size = c := by rw [← data_len, hs, List.length_take, toU_length]; omega
  unfold encOne at h
  by_cases h4 : x.f0 = 4
  · rw [if_pos h4] at h
    by_cases h1 : x.f1 = 0
    case neg => rw [if_neg h1] at h; cases h
    rw [if_pos h1] at h
    by_cases h2 : 100000 < x.f2.size
    · rw [if_pos h2] at h; cases h
    rw [if_neg h2] at h
    cases h
    rw [List.length_append, beI_length] at hc
    have hb : (bytesOf x.f2).length = x.f2.size := by
      have := congrArg List.length (toU_bytes x.f2)
      rwa [toU_length, data_len] at this
    unfold takeS
    rw [if_pos h4]
    by_cases g : s.size < 4
    · rw [if_pos g]
    rw [if_neg g]
    have e : s.data.toList.take 4 = toU (beI ((x.f2.size : Nat) : Int) 4) := by
      rw [hs, List.take_take, show min 4 c = 4 by omega, toU_append, List.take_append_of_le_length (by rw [toU_length, beI_length]; decide), List.take_of_length_le (by rw [toU_length, beI_length]; decide)]
    rw [e, beNat_beI, Nat.mod_eq_of_lt (by omega), if_neg h2, if_pos (by omega)]
  · rw [if_neg h4] at h
    by_cases h1 : 1 ≤ x.f0 ∧ x.f0 ≤ 3
    case neg => rw [if_neg h1] at h; cases h
    rw [if_pos h1] at h
    have ha : a.length = widthI x.f0 := by
      repeat' split at h
      all_goals first | (cases h; rw [beI_length]) | cases h
    unfold takeS
    rw [if_neg h4, if_pos (by omega)]
theorem dec_cut : ∀ (l : List S50) (m : List Int) (n : Nat) (out : List S50) (s : ByteArray) (c : Nat), (∀ x ∈ l, WfI x) → encAll l = .ok m → l.length ≤ n → c < m.length → s.data.toList = (toU m).take c →
    decS [] n (l.map (·.f0)) out s = ([], 2) := by
  intro l
  induction l with
  | nil => intro m n out s c _ h _ hc; cases h; simp at hc
  | cons x xs ih =>
    intro m n out s c hw h hl hc hs
    simp only [encAll] at h
    cases h1 : encOne x with
    | error e => rw [h1] at h; cases h
    | ok a =>
      rw [h1] at h
      cases h2 : encAll xs with
      | error e => rw [h2] at h; cases h
      | ok b =>
        rw [h2] at h
        cases h
        rw [List.length_cons] at hl
        obtain ⟨n, rfl⟩ : ∃ p, n = p + 1 := ⟨n - 1, by omega⟩
        rw [List.map_cons]
        simp only [decS, nextK]
        rw [toU_append, List.take_append, toU_length] at hs
        by_cases g : c < a.length
        · rw [show c - a.length = 0 by omega, List.take_zero, List.append_nil] at hs
          rw [take_cut h1 s c g hs]
        · rw [List.take_of_length_le (by rw [toU_length]; omega)] at hs
          rw [take_enc (hw x (List.mem_cons_self ..)) h1 s _ hs]
          rw [List.length_append] at hc
          exact ih b n _ _ (c - a.length) (fun y hy => hw y (List.mem_cons_of_mem _ hy)) h2 (by omega) (by omega) rfl
theorem encAll_len : ∀ (l : List S50) (m : List Int), encAll l = .ok m → m.length ≤ l.length * 100004 := by
  intro l
  induction l with
  | nil => intro m h; cases h; simp
  | cons x xs ih =>
    intro m h
    simp only [encAll] at h
    cases h1 : encOne x with
    | error e => rw [h1] at h; cases h
    | ok a =>
      rw [h1] at h
      cases h2 : encAll xs with
      | error e => rw [h2] at h; cases h
      | ok b =>
        rw [h2] at h
        cases h
        have := ih b h2
        have := encOne_len h1
        rw [List.length_append, List.length_cons]
        omega
abbrev SI := S50
theorem wrapU64 {a : Int} (h0 : 0 ≤ a) (h1 : a < 18446744073709551616) : IntKind.u64.wrap a = a := by
  show a % 18446744073709551616 = a
  omega
theorem encLg (v : Int) : encOne (⟨3, v, ⟨#[]⟩⟩ : SI) = .ok (beI v 8) := by
  unfold encOne
  dsimp only
  rw [if_neg (by decide), if_pos (by decide), if_pos (by rw [toList_eq]), if_pos (.inl (by decide))]
  rfl
theorem encBt (v : Int) (h0 : 0 ≤ v) (h1 : v < 256) : encOne (⟨1, v, ⟨#[]⟩⟩ : SI) = .ok (beI v 1) := by
  unfold encOne
  dsimp only
  rw [if_neg (by decide), if_pos (by decide), if_pos (by rw [toList_eq]), if_pos (.inr (by show v / 256 ^ 1 = 0; omega))]
  rfl
theorem encTx (s : ByteArray) (h : s.size ≤ 100000) : encOne (⟨4, 0, s⟩ : SI) = .ok (beI (s.size : Int) 4 ++ bytesOf s) := by
  unfold encOne
  dsimp only
  rw [if_pos rfl, if_pos rfl, if_neg (by omega)]
theorem bytes_len (s : ByteArray) : (bytesOf s).length = s.size := bytesOf_length s
theorem wfLg {v : Int} (h0 : 0 ≤ v) (h1 : v < 18446744073709551616) : WfI (⟨3, v, ⟨#[]⟩⟩ : SI) := ⟨h0, h1, by show (-9223372036854775808 : Int) ≤ 3; decide, by show (3 : Int) ≤ 9223372036854775807; decide, by show (0 : Nat) ≤ _; omega⟩
theorem wfBt {v : Int} (h0 : 0 ≤ v) (h1 : v < 18446744073709551616) : WfI (⟨1, v, ⟨#[]⟩⟩ : SI) := ⟨h0, h1, by show (-9223372036854775808 : Int) ≤ 1; decide, by show (1 : Int) ≤ 9223372036854775807; decide, by show (0 : Nat) ≤ _; omega⟩
theorem wfTx {s : ByteArray} (h : s.size ≤ 140737488351232) : WfI (⟨4, 0, s⟩ : SI) := ⟨by show (0 : Int) ≤ 0; decide, by show (0 : Int) < 18446744073709551616; decide, by show (-9223372036854775808 : Int) ≤ 4; decide, by show (4 : Int) ≤ 9223372036854775807; decide, h⟩
theorem itemN {x : SI} {a : List Int} (hx : encOne x = .ok a) (h4 : x.f0 ≠ 4) : x.f2 = ⟨#[]⟩ ∧ (x.f0 = 1 → x.f1 / 256 = 0) := by
  unfold encOne at hx
  rw [if_neg h4] at hx
  split at hx
  · split at hx
    · rename_i g1 g2
      split at hx
      · rename_i g3
        refine ⟨ba_nil g2, fun e1 => ?_⟩
        rcases g3 with g3 | g3
        · rw [e1] at g3; exact absurd g3 (by decide)
        · rw [e1] at g3; simpa [widthI] using g3
      · cases hx
    · cases hx
  · cases hx
theorem item3 {x : SI} {a : List Int} (hx : encOne x = .ok a) (hw : WfI x) (h : x.f0 = 3) : ∃ v, x = ⟨3, v, ⟨#[]⟩⟩ ∧ 0 ≤ v ∧ v < 18446744073709551616 := by
  obtain ⟨h2, -⟩ := itemN hx (by rw [h]; decide)
  obtain ⟨x0, v, x2⟩ := x
  dsimp only at h h2
  subst h h2
  exact ⟨v, rfl, hw.1, hw.2.1⟩
theorem item1 {x : SI} {a : List Int} (hx : encOne x = .ok a) (hw : WfI x) (h : x.f0 = 1) : ∃ v, x = ⟨1, v, ⟨#[]⟩⟩ ∧ 0 ≤ v ∧ v < 256 := by
  obtain ⟨h2, h3⟩ := itemN hx (by rw [h]; decide)
  have h3 := h3 h
  have h0 := hw.1
  obtain ⟨x0, v, x2⟩ := x
  dsimp only at h h2 h3 h0
  subst h h2
  exact ⟨v, rfl, h0, by omega⟩
theorem item4 {x : SI} {a : List Int} (hx : encOne x = .ok a) (h : x.f0 = 4) : ∃ t : ByteArray, x = ⟨4, 0, t⟩ ∧ t.size ≤ 100000 := by
  unfold encOne at hx
  rw [if_pos h] at hx
  split at hx
  · rename_i h1
    split at hx
    · cases hx
    · rename_i h2
      obtain ⟨x0, v, t⟩ := x
      dsimp only at h h1 h2
      subst h h1
      exact ⟨t, rfl, by omega⟩
  · cases hx
theorem encAll_each : ∀ (l : List SI) (e : List Int), encAll l = .ok e → ∀ x ∈ l, ∃ a, encOne x = .ok a := by
  intro l
  induction l with
  | nil => intro e _ x hx; cases hx
  | cons y ys ih =>
    intro e he x hx
    simp only [encAll] at he
    cases h1 : encOne y with
    | error e1 => rw [h1] at he; cases he
    | ok a =>
      rw [h1] at he
      cases h2 : encAll ys with
      | error e2 => rw [h2] at he; cases he
      | ok b =>
        rcases List.mem_cons.1 hx with rfl | hx
        · exact ⟨a, h1⟩
        · exact ih b h2 x hx
/-- What a shape without a star reads. -/
theorem dec_fixed {L : List UInt8} {ks : List Int} (hp : parseS L = some (ks, [])) {s : ByteArray} {l : List SI} (hs : s.size ≤ 1000000000000000) (h : decodeS L s = (l, 0)) :
    ∃ e, encAll l = .ok e ∧ s = strOfNums e ∧ (∀ x ∈ l, WfI x) ∧ l.map (·.f0) = ks ∧ l.length ≤ 1000 := by
  have hk := (parse_kindsK hp).1
  unfold decodeS at h
  rw [hp] at h
  obtain ⟨m, e, hm, h1, h2, h3, h4, j, h5⟩ := enc_dec [] (by simp) 1000 ks [] s l hk hs h
  rw [List.nil_append] at hm
  subst hm
  refine ⟨e, h1, ba_eq (by rw [h2, son_data]), h3, ?_, h4⟩
  rw [h5]
  have : (List.replicate j ([] : List Int)).flatten = [] := by simp
  rw [this, List.append_nil]
/-- What is written for a shape without a star is read by it. -/
theorem dec_written {L : List UInt8} {ks : List Int} (hp : parseS L = some (ks, [])) (l : List SI) (hk : l.map (·.f0) = ks) {m : List Int} (h : encAll l = .ok m) (hw : ∀ x ∈ l, WfI x) (hl : l.length ≤ 999) : decodeS L (strOfNums m) = (l, 0) := by
  unfold decodeS
  rw [hp]
  dsimp only
  have := dec_enc [] [] l m 1000 [] [] (strOfNums m) hw h (by omega) (by rw [son_data, List.append_nil])
  rw [List.append_nil, hk, List.nil_append] at this
  rw [this]
  obtain ⟨n, hn⟩ : ∃ n, 1000 - l.length = n + 1 := ⟨1000 - l.length - 1, by omega⟩
  rw [hn]
  simp only [decS, nextK]
  rw [if_pos (by rw [toList_eq])]
/-- One step of the sum. -/
def stp (v : Nat) : Nat := (v / 2) ^^^ ((v % 2) * 0x82F63B78)
def stpN : Nat → Nat → Nat
  | 0, v => v
  | n + 1, v => stpN n (stp v)
theorem stpN_add (m n v : Nat) : stpN (m + n) v = stpN n (stpN m v) := by
  induction m generalizing v with
  | zero => simp [stpN]
  | succ m ih => rw [Nat.succ_add]; exact ih _
theorem xlc (a b c : Nat) : a ^^^ (b ^^^ c) = b ^^^ (a ^^^ c) := by rw [← Nat.xor_assoc, Nat.xor_comm a b, Nat.xor_assoc]
theorem xcl (a b : Nat) : a ^^^ (a ^^^ b) = b := by rw [← Nat.xor_assoc, Nat.xor_self, Nat.zero_xor]
theorem xor_div2 (a b : Nat) : (a ^^^ b) / 2 = (a / 2) ^^^ (b / 2) := by
  have := @Nat.shiftRight_xor_distrib 1 a b
  simpa [Nat.shiftRight_succ] using this
theorem xor_mod2 (a b : Nat) : (a ^^^ b) % 2 = (a % 2) ^^^ (b % 2) := by
  have := @Nat.xor_mod_two_pow a b 1
  simpa using this
theorem stp_xor (a b : Nat) : stp (a ^^^ b) = stp a ^^^ stp b := by
  unfold stp
  rw [xor_div2, xor_mod2]
  rcases Nat.mod_two_eq_zero_or_one a with h | h <;> rcases Nat.mod_two_eq_zero_or_one b with h' | h' <;> rw [h, h'] <;> simp [Nat.xor_assoc, Nat.xor_comm, xlc, xcl]
theorem stpN_xor (n a b : Nat) : stpN n (a ^^^ b) = stpN n a ^^^ stpN n b := by
  induction n generalizing a b with
  | zero => rfl
  | succ n ih => simp only [stpN]; rw [stp_xor, ih]
theorem stp_even (h : Nat) : stp (2 * h) = h := by
  unfold stp
  rw [show 2 * h / 2 = h by omega, show 2 * h % 2 = 0 by omega]
  simp
theorem stpN_four (h : Nat) : stpN 4 (16 * h) = h := by
  show stp (stp (stp (stp (16 * h)))) = h
  rw [show 16 * h = 2 * (8 * h) by omega, stp_even, show 8 * h = 2 * (4 * h) by omega, stp_even, show 4 * h = 2 * (2 * h) by omega, stp_even, stp_even]
theorem split16 (v : Nat) : v = (16 * (v / 16)) ^^^ (v % 16) := by
  have h1 : v % 16 < 2 ^ 4 := by omega
  have h2 := Nat.two_pow_add_eq_or_of_lt h1 (v / 16)
  have h3 : 2 ^ 4 * (v / 16) ^^^ v % 16 = 2 ^ 4 * (v / 16) ||| v % 16 := by
    apply Nat.eq_of_testBit_eq
    intro i
    rw [Nat.testBit_xor, Nat.testBit_or, Nat.testBit_two_pow_mul]
    by_cases hi : i < 4
    · simp [show ¬ 4 ≤ i by omega]
    · have : (v % 16).testBit i = false := Nat.testBit_lt_two_pow (Nat.lt_of_lt_of_le h1 (Nat.pow_le_pow_right (by omega) (by omega)))
      simp [this]
  have h4 : 2 ^ 4 * (v / 16) + v % 16 = v := by omega
  show v = 2 ^ 4 * (v / 16) ^^^ v % 16
  rw [h3, ← h2, h4]
def tabN : List Nat := [0x00000000, 0x105EC76F, 0x20BD8EDE, 0x30E349B1, 0x417B1DBC, 0x5125DAD3, 0x61C69362, 0x7198540D, 0x82F63B78, 0x92A8FC17, 0xA24BB5A6, 0xB21572C9, 0xC38D26C4, 0xD3D3E1AB, 0xE330A81A, 0xF36E6F75]
theorem tab_is : ∀ j : Fin 16, stpN 4 j.val = tabN.getD j.val 0 := by decide
theorem nibble (v : Nat) : stpN 4 v = (v / 16) ^^^ tabN.getD (v % 16) 0 := by
  have h := split16 v
  have e : stpN 4 v = stpN 4 ((16 * (v / 16)) ^^^ (v % 16)) := by rw [← h]
  rw [e, stpN_xor, stpN_four, tab_is ⟨v % 16, by omega⟩]
/-- The bits of a byte, one behind the other: u after k bits. -/
def bitst (u b : Nat) : Nat := if b ≠ u % 2 then (u / 2) ^^^ 0x82F63B78 else u / 2
theorem bitst_is (u d : Nat) : stp (u ^^^ d) = bitst u (d % 2) ^^^ (d / 2) := by
  unfold stp bitst
  rw [xor_div2, xor_mod2]
  rcases Nat.mod_two_eq_zero_or_one u with h | h <;> rcases Nat.mod_two_eq_zero_or_one d with h' | h' <;> rw [h, h'] <;> simp [Nat.xor_assoc, Nat.xor_comm, xlc, xcl]
def bitsN : Nat → Nat → Nat → Nat
  | 0, u, _ => u
  | n + 1, u, d => bitsN n (bitst u (d % 2)) (d / 2)
theorem bitsN_is (n u d : Nat) : stpN n (u ^^^ d) = bitsN n u d ^^^ (d / 2 ^ n) := by
  induction n generalizing u d with
  | zero => simp [stpN, bitsN]
  | succ n ih =>
    simp only [stpN, bitsN]
    rw [bitst_is, ih, Nat.div_div_eq_div_mul, Nat.pow_succ, Nat.mul_comm]
theorem bitsN_byte (u c : Nat) (hc : c < 256) : bitsN 8 u c = stpN 8 (u ^^^ c) := by
  rw [bitsN_is, show c / 2 ^ 8 = 0 by omega]
  simp
theorem stp_lt {v : Nat} (h : v < 4294967296) : stp v < 4294967296 := by
  unfold stp
  refine Nat.xor_lt_two_pow (n := 32) (Nat.lt_of_le_of_lt (Nat.div_le_self v 2) h) ?_
  rcases Nat.mod_two_eq_zero_or_one v with h' | h' <;> rw [h'] <;> decide
/-- The highest bit of a step tells the lowest one of what was. -/
theorem stp_zero {v : Nat} (h : v < 4294967296) (hz : stp v = 0) : v = 0 := by
  unfold stp at hz
  rcases Nat.mod_two_eq_zero_or_one v with h' | h'
  · rw [h'] at hz
    simp at hz
    omega
  · rw [h'] at hz
    have h1 : v / 2 = 0x82F63B78 := by
      have e := congrArg (fun x => x ^^^ 0x82F63B78) hz
      simp only [Nat.one_mul, Nat.xor_assoc, Nat.xor_self, Nat.xor_zero, Nat.zero_xor] at e
      exact e
    omega
theorem stpN_zero (n : Nat) {v : Nat} (h : v < 4294967296) (hz : stpN n v = 0) : v = 0 := by
  induction n generalizing v with
  | zero => exact hz
  | succ n ih => exact stp_zero h (ih (stp_lt h) hz)
theorem tabN_eq : tabN = crcTabN := rfl
theorem crcStepN_is (s : Nat) : crcStepN s = stpN 4 s := (nibble s).symm
theorem crcByteN_is (s c : Nat) : crcByteN s c = stpN 8 (s ^^^ c) := by
  unfold crcByteN
  rw [crcStepN_is, crcStepN_is, ← stpN_add]
theorem bt_nat (s : ByteArray) (i : Nat) : bt s (i : Int) = ((s.data.toList.getD i 0).toNat : Int) := by
  unfold bt
  have e : ((i : Int)).toNat = i := rfl
  rw [e]
  by_cases h : i < s.size
  · rw [dif_pos h]
    have hl : i < s.data.toList.length := by rw [Array.length_toList]; exact h
    rw [List.getD_eq_getElem?_getD, List.getElem?_eq_getElem hl]
    simp only [Option.getD_some]
    rfl
  · rw [dif_neg h]
    have hl : s.data.toList.length ≤ i := by rw [Array.length_toList]; exact Nat.not_lt.1 h
    rw [List.getD_eq_getElem?_getD, List.getElem?_eq_none hl]
    rfl
theorem shr8 (c j : Nat) (hj : j ≤ 8) : shr .u8 (c : Int) (j : Int) = ((c / 2 ^ j : Nat) : Int) := by
  unfold shr
  have e2 : (2 : Int) ^ j = ((2 ^ j : Nat) : Int) := by simp
  rw [show min ((j : Int)).toNat IntKind.u8.bits = j from Nat.min_eq_left hj]
  rw [e2]
  rfl
theorem xor0 : 4294967295 ^^^ (0 : Int).toNat = 4294967295 := by decide
theorem more_zero (s : ByteArray) (h : s.size ≤ 9223372036854775807) : crc_More.f 0 s = some ((4294967295 ^^^ crcFoldN 4294967295 s.data.toList : Nat) : Int) := by
  unfold crc_More.f
  rw [if_pos ⟨by decide, by decide, h⟩, xor0]
theorem more_on (m : Nat) (hm : m < 4294967296) (s : ByteArray) (h : s.size ≤ 9223372036854775807) : crc_More.f ((4294967295 ^^^ m : Nat) : Int) s = some ((4294967295 ^^^ crcFoldN m s.data.toList : Nat) : Int) := by
  have hx : 4294967295 ^^^ m < 4294967296 := xor_lt32 (by decide) hm
  unfold crc_More.f
  rw [if_pos ⟨by omega, by omega, h⟩]
  rw [show (((4294967295 ^^^ m : Nat) : Int)).toNat = 4294967295 ^^^ m from rfl, xcl]
theorem fold_append (s : Nat) (a b : List UInt8) : crcFoldN s (a ++ b) = crcFoldN (crcFoldN s a) b := by simp [crcFoldN]
theorem cdata_append (a b : ByteArray) : (a ++ b).data.toList = a.data.toList ++ b.data.toList := by rw [ByteArray.data_append, Array.toList_append]
theorem wf_u32 {x : Int} (h : (Lit.int .u32 x).wf = true) : 0 ≤ x ∧ x < 4294967296 := by
  have h2 := bounds_u32 h
  omega
def ls (s : ByteArray) : List UInt8 := s.data.toList
theorem ls_len (s : ByteArray) : (ls s).length = s.size := by unfold ls; rw [Array.length_toList]; rfl
theorem ls_append (a b : ByteArray) : ls (a ++ b) = ls a ++ ls b := cdata_append a b
theorem ls_extract (s : ByteArray) (a b : Nat) : ls (s.extract a b) = ((ls s).drop a).take (b - a) := by
  unfold ls
  rw [ByteArray.data_extract, Array.toList_extract]
theorem ls_inj {a b : ByteArray} (h : ls a = ls b) : a = b := by
  cases a; cases b
  unfold ls at h
  simp only [Array.toList_inj] at h
  rw [h]
/-- byte i of a text (0 behind its end) -/
def by8 (l : List UInt8) (i : Nat) : Nat := (l.getD i 0).toNat
theorem by8_lt (l : List UInt8) (i : Nat) : by8 l i < 256 := UInt8.toNat_lt _
/-- The number of four bytes. -/
def num4 (l : List UInt8) : Nat := by8 l 0 * 16777216 + by8 l 1 * 65536 + by8 l 2 * 256 + by8 l 3
theorem num4_lt (l : List UInt8) : num4 l < 4294967296 := by
  have := by8_lt l 0; have := by8_lt l 1; have := by8_lt l 2; have := by8_lt l 3
  unfold num4
  omega
/-- A number's four bytes. -/
def word4 (n : Nat) : List UInt8 := [UInt8.ofNat (n / 16777216), UInt8.ofNat (n / 65536), UInt8.ofNat (n / 256), UInt8.ofNat n]
theorem num4_word (n : Nat) (h : n < 4294967296) (l : List UInt8) : num4 (word4 n ++ l) = n := by
  unfold num4 by8 word4
  simp only [List.cons_append, List.nil_append, List.getD_cons_zero, List.getD_cons_succ, UInt8.toNat_ofNat']
  omega
theorem or_join (a b : Nat) (k : Nat) (hb : b < 2 ^ k) : a * 2 ^ k ||| b = a * 2 ^ k + b := by
  rw [Nat.mul_comm]
  exact (Nat.two_pow_add_eq_or_of_lt hb a).symm
theorem cnum_is (s : ByteArray) (h : 4 ≤ s.size) : crc_number.f s = some ((num4 (ls s) : Nat) : Int) := by
  unfold crc_number.f
  rw [if_pos (by omega), if_pos (by omega), if_pos (by omega), if_pos (by omega)]
  have b0 : bt s 0 = ((by8 (ls s) 0 : Nat) : Int) := bt_nat s 0
  have b1 : bt s 1 = ((by8 (ls s) 1 : Nat) : Int) := bt_nat s 1
  have b2 : bt s 2 = ((by8 (ls s) 2 : Nat) : Int) := bt_nat s 2
  have b3 : bt s 3 = ((by8 (ls s) 3 : Nat) : Int) := bt_nat s 3
  rw [b0, b1, b2, b3]
  unfold num4
  have h0 := by8_lt (ls s) 0
  have h1 := by8_lt (ls s) 1
  have h2 := by8_lt (ls s) 2
  have h3 := by8_lt (ls s) 3
  generalize by8 (ls s) 0 = n0 at *
  generalize by8 (ls s) 1 = n1 at *
  generalize by8 (ls s) 2 = n2 at *
  generalize by8 (ls s) 3 = n3 at *
  have e0 : (n0 : Int) % 4294967296 * 16777216 % 4294967296 = ((n0 * 16777216 : Nat) : Int) := by omega
  have e1 : (n1 : Int) % 4294967296 * 65536 % 4294967296 = ((n1 * 65536 : Nat) : Int) := by omega
  have e2 : (n2 : Int) % 4294967296 * 256 % 4294967296 = ((n2 * 256 : Nat) : Int) := by omega
  have e3 : (n3 : Int) % 4294967296 = ((n3 : Nat) : Int) := by omega
  rw [e0, e1, e2, e3, u32_or_nat _ _ (by omega) (by omega)]
  rw [show n0 * 16777216 ||| n1 * 65536 = n0 * 16777216 + n1 * 65536 from or_join n0 (n1 * 65536) 24 (by omega)]
  rw [u32_or_nat _ _ (by omega) (by omega)]
  rw [show (n0 * 16777216 + n1 * 65536) ||| n2 * 256 = n0 * 16777216 + n1 * 65536 + n2 * 256 by
    have := or_join (n0 * 256 + n1) (n2 * 256) 16 (by omega)
    rw [show (n0 * 256 + n1) * 2 ^ 16 = n0 * 16777216 + n1 * 65536 by omega] at this
    exact this]
  rw [u32_or_nat _ _ (by omega) (by omega)]
  rw [show (n0 * 16777216 + n1 * 65536 + n2 * 256) ||| n3 = n0 * 16777216 + n1 * 65536 + n2 * 256 + n3 by
    have := or_join (n0 * 65536 + n1 * 256 + n2) n3 8 (by omega)
    rw [show (n0 * 65536 + n1 * 256 + n2) * 2 ^ 8 = n0 * 16777216 + n1 * 65536 + n2 * 256 by omega] at this
    exact this]
theorem word_ls (n : Nat) : ls (strOfNums ([((n : Nat) : Int) / 16777216 % 256, (n : Int) / 65536 % 256, (n : Int) / 256 % 256, (n : Int) % 256] : List Int)) = word4 n := by
  unfold ls
  rw [strOfNums_data]
  unfold word4
  have e : ∀ m : Nat, UInt8.ofNat (((m : Int) % 256).toNat) = UInt8.ofNat m := by
    intro m
    have : ((m : Int) % 256).toNat = m % 256 := by omega
    rw [this]
    apply UInt8.toNat_inj.1
    simp
  simp only [List.map_cons, List.map_nil]
  rw [show ((n : Int) / 16777216) = ((n / 16777216 : Nat) : Int) from rfl, show ((n : Int) / 65536) = ((n / 65536 : Nat) : Int) from rfl, show ((n : Int) / 256) = ((n / 256 : Nat) : Int) from rfl, e, e, e, e]
/-- The sum that stands in a frame: of the length's bytes, gone on with the body. -/
def sumOf (l b : List UInt8) : Nat := 4294967295 ^^^ crcFoldN (crcFoldN 4294967295 l) b
theorem sumOf_lt (l b : List UInt8) : sumOf l b < 4294967296 := xor_lt32 (by decide) (crcFoldN_lt _ (crcFoldN_lt _ (by decide)))
/-- The sum of a text. -/
def sum0 (l : List UInt8) : Nat := 4294967295 ^^^ crcFoldN 4294967295 l
theorem sum_zero (s : ByteArray) (h : s.size ≤ 9223372036854775807) : crc_Sum.f s = some ((sum0 (ls s) : Nat) : Int) := by
  unfold crc_Sum.f
  rw [more_zero s h, Option.bind_some]
  unfold sum0 ls
  exact Eq.refl _
theorem sum_on (l : List UInt8) (b : ByteArray) (h : b.size ≤ 9223372036854775807) : crc_More.f ((sum0 l : Nat) : Int) b = some ((sumOf l (ls b) : Nat) : Int) := by
  unfold sum0
  rw [more_on _ (crcFoldN_lt l (by decide)) b h]
  unfold sumOf ls
  exact Eq.refl _
/-- A frame's bytes. -/
def frameL (b : List UInt8) : List UInt8 := word4 b.length ++ word4 (sumOf (word4 b.length) b) ++ b
def word (n : Nat) : ByteArray := strOfNums ([((n : Nat) : Int) / 16777216 % 256, (n : Int) / 65536 % 256, (n : Int) / 256 % 256, (n : Int) % 256] : List Int)
theorem word_size (n : Nat) : (word n).size = 4 := by unfold word; rw [strOfNums_size]; rfl
theorem word_bytes (n : Nat) : ls (word n) = word4 n := word_ls n
def frame (b : ByteArray) : ByteArray := word b.size ++ word (sumOf (word4 b.size) (ls b)) ++ b
theorem frame_ls (b : ByteArray) : ls (frame b) = frameL (ls b) := by
  unfold frame frameL
  rw [ls_append, ls_append, word_bytes, word_bytes, ls_len]
theorem frame_size (b : ByteArray) : (frame b).size = b.size + 8 := by
  unfold frame
  rw [ByteArray.size_append, ByteArray.size_append, word_size, word_size]
  omega
theorem frame_is (b : ByteArray) : crc_Frame.f b = some (if (b.size : Int) > 400000 then ((⟨#[]⟩ : ByteArray), 3) else (frame b, 0)) := by
  unfold crc_Frame.f
  by_cases h : (b.size : Int) > 400000
  · rw [if_pos h, if_pos h]
  · rw [if_neg h, if_neg h]
    have e0 : ((b.size : Int)) % 4294967296 = ((b.size : Nat) : Int) := by omega
    rw [e0]
    have hw : crc_word.f ((b.size : Nat) : Int) = some (word b.size) := rfl
    have hs : crc_Sum.f (word b.size) = some ((sum0 (word4 b.size) : Nat) : Int) := by
      rw [sum_zero _ (by rw [word_size]; omega), word_bytes]
    have hm := sum_on (word4 b.size) b (by omega)
    have hw2 : crc_word.f ((sumOf (word4 b.size) (ls b) : Nat) : Int) = some (word (sumOf (word4 b.size) (ls b))) := by
      generalize sumOf (word4 b.size) (ls b) = q
      rfl
    rw [hw, Option.bind_some, hs, Option.bind_some, hm, Option.bind_some, hw2, Option.bind_some]
    rw [if_pos (by rw [word_size, word_size]; omega), if_pos (by rw [ByteArray.size_append, word_size, word_size]; omega)]
    unfold frame
    exact Eq.refl _
/-- What Take answers. -/
def takeV (s : ByteArray) : ByteArray × Int × Int :=
  if s.size < 4 then (⟨#[]⟩, 0, 2) else if 400000 < num4 (ls s) then (⟨#[]⟩, 0, 3) else if s.size < 8 + num4 (ls s) then (⟨#[]⟩, 0, 2)
  else if sumOf ((ls s).take 4) (((ls s).drop 8).take (num4 (ls s))) = num4 ((ls s).drop 4) then (s.extract 8 (8 + num4 (ls s)), ((8 + num4 (ls s) : Nat) : Int), 0) else (⟨#[]⟩, 0, 4)
theorem take_is (s : ByteArray) (hs : s.size ≤ 9223372036854775807) : crc_Take.f s = some (takeV s) := by
  unfold crc_Take.f takeV
  by_cases h4 : s.size < 4
  · rw [if_pos (by omega), if_pos h4]
  · rw [if_neg (by omega), if_neg h4, cnum_is s (by omega), Option.bind_some]
    have hn := num4_lt (ls s)
    generalize hn4 : num4 (ls s) = n at *
    by_cases h5 : 400000 < n
    · rw [if_pos (by omega), if_pos h5]
    · rw [if_neg (by omega), if_neg h5]
      have w1 : IntKind.u64.wrap ((s.size : Int)) = (s.size : Int) := by rw [IntKind.wrap_u64]; omega
      have w2 : IntKind.u64.wrap ((n : Int)) = (n : Int) := by rw [IntKind.wrap_u64]; omega
      have w3 : IntKind.u64.wrap (8 + (n : Int)) = ((8 + n : Nat) : Int) := by rw [IntKind.wrap_u64]; omega
      rw [w1, w2, w3]
      by_cases h6 : s.size < 8 + n
      · rw [if_pos (by omega), if_pos h6]
      · rw [if_neg (by omega), if_neg h6]
        have w4 : (8 + (n : Int)) % 4294967296 = ((8 + n : Nat) : Int) := by omega
        have w5 : wrap64 (n : Int) = (n : Int) := by unfold wrap64; omega
        have w6 : wrap64 (8 + (n : Int)) = ((8 + n : Nat) : Int) := by unfold wrap64; omega
        rw [w4, w5, w6, if_pos (by omega), if_pos (by omega), if_pos (by decide), if_pos (by omega)]
        have e4 : (s.extract 0 4).size = 4 := by rw [← ls_len, ls_extract, List.length_take, List.length_drop, ls_len]; omega
        have hsum : crc_Sum.f (s.extract 0 4) = some ((sum0 ((ls s).take 4) : Nat) : Int) := by
          rw [sum_zero _ (by omega), ls_extract, List.drop_zero]
        have e8 : (s.extract 8 (8 + n)).size ≤ n := by rw [← ls_len, ls_extract, List.length_take]; omega
        have hm := sum_on ((ls s).take 4) (s.extract 8 (8 + n)) (by omega)
        rw [ls_extract s 8 (8 + n), show 8 + n - 8 = n by omega] at hm
        have e5 : (s.extract 4 s.size).size = s.size - 4 := by rw [← ls_len, ls_extract, List.length_take, List.length_drop, ls_len]; omega
        have hnum : crc_number.f (s.extract 4 s.size) = some ((num4 ((ls s).drop 4) : Nat) : Int) := by
          rw [cnum_is _ (by omega), ls_extract, List.take_of_length_le (by rw [List.length_drop, ls_len]; omega)]
        rw [show (((8 + n : Nat) : Int)).toNat = 8 + n from rfl]
        rw [hsum, Option.bind_some, hm, Option.bind_some, hnum, Option.bind_some]
        by_cases h7 : sumOf ((ls s).take 4) (((ls s).drop 8).take n) = num4 ((ls s).drop 4)
        · rw [if_pos (by rw [h7]), if_pos h7]
        · rw [if_neg (fun h => h7 (Int.ofNat_inj.1 h)), if_neg h7]
theorem sum0_append (l b : List UInt8) : sum0 (l ++ b) = sumOf l b := by
  unfold sum0 sumOf
  rw [fold_append]
theorem num4_take (l : List UInt8) (n : Nat) (h : 4 ≤ n) : num4 (l.take n) = num4 l := by
  have e : ∀ i, i < 4 → by8 (l.take n) i = by8 l i := by
    intro i hi
    unfold by8
    rw [List.getD_eq_getElem?_getD, List.getD_eq_getElem?_getD, List.getElem?_take_of_lt (by omega)]
  unfold num4
  rw [e 0 (by omega), e 1 (by omega), e 2 (by omega), e 3 (by omega)]
/-- What Take tells: a frame within the text, or nothing. -/
theorem take_tells (s : ByteArray) : (takeV s).2.2 = 0 ∧ (takeV s).2.1 = (((takeV s).1.size + 8 : Nat) : Int) ∧ (takeV s).1.size + 8 ≤ s.size ∨ (takeV s).2.2 ≠ 0 ∧ (takeV s).1 = ⟨#[]⟩ ∧ (takeV s).2.1 = 0 := by
  unfold takeV
  by_cases h4 : s.size < 4
  · rw [if_pos h4]; right; exact ⟨by decide, rfl, rfl⟩
  · rw [if_neg h4]
    generalize num4 (ls s) = n
    by_cases h5 : 400000 < n
    · rw [if_pos h5]; right; exact ⟨by decide, rfl, rfl⟩
    · rw [if_neg h5]
      by_cases h6 : s.size < 8 + n
      · rw [if_pos h6]; right; exact ⟨by decide, rfl, rfl⟩
      · rw [if_neg h6]
        generalize num4 ((ls s).drop 4) = q
        generalize sumOf ((ls s).take 4) (((ls s).drop 8).take n) = p
        by_cases h7 : p = q
        · rw [if_pos h7]
          have e8 : (s.extract 8 (8 + n)).size = n := by rw [← ls_len, ls_extract, List.length_take, List.length_drop, ls_len]; omega
          left
          refine ⟨rfl, ?_, ?_⟩
          · show ((8 + n : Nat) : Int) = (((s.extract 8 (8 + n)).size + 8 : Nat) : Int)
            omega
          · show (s.extract 8 (8 + n)).size + 8 ≤ s.size
            omega
        · rw [if_neg h7]; right; exact ⟨by decide, rfl, rfl⟩
theorem word4_len (n : Nat) : (word4 n).length = 4 := rfl
theorem frameL_len (b : List UInt8) : (frameL b).length = b.length + 8 := by
  unfold frameL
  rw [List.length_append, List.length_append, word4_len, word4_len]
  omega
theorem word4_inj {m n : Nat} (hm : m < 4294967296) (hn : n < 4294967296) (h : word4 m = word4 n) : m = n := by
  have := congrArg num4 h
  rw [← List.append_nil (word4 m), ← List.append_nil (word4 n), num4_word m hm, num4_word n hn] at this
  exact this
theorem drop4 (n : Nat) (x : List UInt8) : (word4 n ++ x).drop 4 = x := List.drop_left' (word4_len n)
theorem take4 (n : Nat) (x : List UInt8) : (word4 n ++ x).take 4 = word4 n := List.take_left' (word4_len n)
/-- The bytes of a frame, its sum under a letter. -/
theorem frameL_q (b : ByteArray) : ∃ q, q < 4294967296 ∧ sumOf (word4 b.size) (ls b) = q ∧ frameL (ls b) = word4 b.size ++ (word4 q ++ ls b) := by
  refine ⟨_, sumOf_lt (word4 b.size) (ls b), Eq.refl _, ?_⟩
  unfold frameL
  rw [ls_len, List.append_assoc]
/-- Take of a frame with a rest behind it. -/
theorem take_frame (b : ByteArray) (hb : b.size ≤ 400000) (s : ByteArray) (r : List UInt8) (hs : ls s = frameL (ls b) ++ r) : takeV s = (b, ((b.size + 8 : Nat) : Int), 0) := by
  have hl : s.size = b.size + 8 + r.length := by rw [← ls_len, hs, List.length_append, frameL_len, ls_len]
  obtain ⟨q, hql, hq, hf⟩ := frameL_q b
  have h1 : ls s = word4 b.size ++ (word4 q ++ (ls b ++ r)) := by rw [hs, hf, List.append_assoc, List.append_assoc]
  have hn : num4 (ls s) = b.size := by rw [h1]; exact num4_word _ (by omega) _
  have hd4 : (ls s).drop 4 = word4 q ++ (ls b ++ r) := by rw [h1, drop4]
  have ht4 : (ls s).take 4 = word4 b.size := by rw [h1, take4]
  have hd8 : (ls s).drop 8 = ls b ++ r := by rw [show 8 = 4 + 4 by omega, ← List.drop_drop, hd4, drop4]
  unfold takeV
  rw [hn, if_neg (by omega), if_neg (by omega), if_neg (by omega), hd4, ht4, hd8]
  have e1 : (ls b ++ r).take b.size = ls b := by rw [← ls_len, List.take_left]
  rw [e1, num4_word _ hql, hq, if_pos rfl]
  have e2 : s.extract 8 (8 + b.size) = b := by
    apply ls_inj
    rw [ls_extract, hd8, show 8 + b.size - 8 = b.size by omega, e1]
  rw [e2, show 8 + b.size = b.size + 8 by omega]
/-- Take of a beginning of a frame, shorter than it. -/
theorem take_torn (b : ByteArray) (hb : b.size ≤ 400000) (s : ByteArray) (r t : List UInt8) (hs : ls s ++ t = frameL (ls b) ++ r) (hlt : s.size < b.size + 8) : takeV s = (⟨#[]⟩, 0, 2) := by
  unfold takeV
  by_cases h4 : s.size < 4
  · rw [if_pos h4]
  · obtain ⟨q, hql, hq, hf⟩ := frameL_q b
    have h1 : ls s ++ t = word4 b.size ++ (word4 q ++ (ls b ++ r)) := by rw [hs, hf, List.append_assoc, List.append_assoc]
    have hn : num4 (ls s) = b.size := by
      rw [← num4_take (ls s) 4 (by omega)]
      have : (ls s).take 4 = (ls s ++ t).take 4 := by rw [List.take_append_of_le_length (by rw [ls_len]; omega)]
      rw [this, h1, take4, ← List.append_nil (word4 b.size)]
      exact num4_word _ (by omega) _
    rw [if_neg h4, hn, if_neg (by omega), if_pos (by omega)]
abbrev SF := S23
def fItems (r : SF) : List SI := [⟨3, r.f0, ⟨#[]⟩⟩, ⟨3, r.f1, ⟨#[]⟩⟩, ⟨3, r.f2, ⟨#[]⟩⟩, ⟨3, r.f3, ⟨#[]⟩⟩, ⟨4, 0, r.f4⟩]
def frmN (r : SF) : List Int := beI r.f0 8 ++ (beI r.f1 8 ++ (beI r.f2 8 ++ (beI r.f3 8 ++ (beI (r.f4.size : Int) 4 ++ bytesOf r.f4 ++ []))))
def frmB (r : SF) : ByteArray := strOfNums (frmN r)
theorem rightF_all {r : SF} (h : RightF r) : (0 ≤ r.f0 ∧ r.f0 ≤ 9007199254740991) ∧ (0 ≤ r.f1 ∧ r.f1 ≤ 9007199254740991) ∧ (0 ≤ r.f2 ∧ r.f2 ≤ 9007199254740991) ∧ (0 ≤ r.f3 ∧ r.f3 ≤ 9007199254740991) ∧ r.f4.size ≤ 100000 := by
  unfold RightF at h
  omega
theorem fItems_enc {r : SF} (h : RightF r) : encAll (fItems r) = .ok (frmN r) := by
  obtain ⟨_, _, _, _, h4⟩ := rightF_all h
  unfold fItems frmN
  simp only [encAll, encLg]
  rw [encTx r.f4 (by omega)]
theorem fItems_wf {r : SF} (h : RightF r) : ∀ x ∈ fItems r, WfI x := by
  obtain ⟨h0, h1, h2, h3, h4⟩ := rightF_all h
  intro x hx
  unfold fItems at hx
  simp only [List.mem_cons, List.not_mem_nil, or_false] at hx
  rcases hx with rfl | rfl | rfl | rfl | rfl
  · exact wfLg (by omega) (by omega)
  · exact wfLg (by omega) (by omega)
  · exact wfLg (by omega) (by omega)
  · exact wfLg (by omega) (by omega)
  · exact wfTx (by omega)
theorem frmB_le {r : SF} (h : RightF r) : (frmB r).size ≤ 100036 := by
  obtain ⟨h0, h1, h2, h3, h4⟩ := rightF_all h
  unfold frmB
  rw [son_size]
  unfold frmN
  simp only [List.length_append, beI_length, bytes_len, List.length_nil]
  omega
theorem fItems_encS {r : SF} (h : RightF r) : encS (fItems r) = (frmB r, 0) := encS_of (fItems_enc h) (by unfold fItems; simp)
def zF : SF := ⟨0, 0, 0, 0, ⟨#[]⟩⟩
def frmOf (l : List SI) : SF := ⟨(l.getD 0 z50).f1, (l.getD 1 z50).f1, (l.getD 2 z50).f1, (l.getD 3 z50).f1, (l.getD 4 z50).f2⟩
/-- What is read of a body. -/
def frmV (b : ByteArray) : SF × Int := if (decodeS [108, 108, 108, 108, 116] b).2 = 0 ∧ RightF (frmOf (decodeS [108, 108, 108, 108, 116] b).1) then (frmOf (decodeS [108, 108, 108, 108, 116] b).1, 0) else (zF, 10)
theorem frm_items {b : ByteArray} (hb : b.size ≤ 1000000000000000) {l : List SI} (h : decodeS [108, 108, 108, 108, 116] b = (l, 0)) :
    ∃ v0 v1 v2 v3 t4, l = [⟨3, v0, ⟨#[]⟩⟩, ⟨3, v1, ⟨#[]⟩⟩, ⟨3, v2, ⟨#[]⟩⟩, ⟨3, v3, ⟨#[]⟩⟩, ⟨4, 0, t4⟩] ∧ (0 ≤ v0 ∧ v0 < 18446744073709551616) ∧ (0 ≤ v1 ∧ v1 < 18446744073709551616) ∧ (0 ≤ v2 ∧ v2 < 18446744073709551616) ∧ (0 ≤ v3 ∧ v3 < 18446744073709551616) ∧ ∃ e, encAll l = .ok e ∧ b = strOfNums e := by
  obtain ⟨e, h1, h2, h3, h4, h5⟩ := dec_fixed (show parseS [108, 108, 108, 108, 116] = some ([3, 3, 3, 3, 4], []) by decide) hb h
  have hea := encAll_each l e h1
  obtain ⟨x0, x1, x2, x3, x4, rfl⟩ : ∃ x0 x1 x2 x3 x4, l = [x0, x1, x2, x3, x4] := by
    have hlen : l.length = 5 := by have := congrArg List.length h4; simpa using this
    rcases l with _ | ⟨x0, _ | ⟨x1, _ | ⟨x2, _ | ⟨x3, _ | ⟨x4, _ | ⟨x5, l⟩⟩⟩⟩⟩⟩
    all_goals first | exact ⟨_, _, _, _, _, rfl⟩ | (simp only [List.length_cons, List.length_nil] at hlen; omega)
  simp only [List.map_cons, List.map_nil, List.cons.injEq, and_true] at h4
  obtain ⟨k0, k1, k2, k3, k4⟩ := h4
  obtain ⟨a0, e0⟩ := hea x0 (by simp)
  obtain ⟨a1, e1⟩ := hea x1 (by simp)
  obtain ⟨a2, e2⟩ := hea x2 (by simp)
  obtain ⟨a3, e3⟩ := hea x3 (by simp)
  obtain ⟨a4, e4⟩ := hea x4 (by simp)
  obtain ⟨v0, rfl, p0, p1⟩ := item3 e0 (h3 x0 (by simp)) k0
  obtain ⟨v1, rfl, q0, q1⟩ := item3 e1 (h3 x1 (by simp)) k1
  obtain ⟨v2, rfl, r0, r1⟩ := item3 e2 (h3 x2 (by simp)) k2
  obtain ⟨v3, rfl, s0, s1⟩ := item3 e3 (h3 x3 (by simp)) k3
  obtain ⟨t4, rfl, _⟩ := item4 e4 k4
  exact ⟨v0, v1, v2, v3, t4, rfl, ⟨p0, p1⟩, ⟨q0, q1⟩, ⟨r0, r1⟩, ⟨s0, s1⟩, e, h1, h2⟩
theorem frmV_enc {r : SF} (h : RightF r) : frmV (frmB r) = (r, 0) := by
  have hd : decodeS [108, 108, 108, 108, 116] (frmB r) = (fItems r, 0) := dec_written (show parseS [108, 108, 108, 108, 116] = some ([3, 3, 3, 3, 4], []) by decide) (fItems r) rfl (fItems_enc h) (fItems_wf h) (by unfold fItems; simp)
  have he : frmOf (fItems r) = r := rfl
  unfold frmV
  rw [hd]
  dsimp only
  rw [he, if_pos ⟨rfl, h⟩]
theorem frmV_back {b : ByteArray} {r : SF} (hb : b.size ≤ 1000000000000000) (h : frmV b = (r, 0)) : RightF r ∧ b = frmB r := by
  unfold frmV at h
  split at h
  · rename_i hc
    obtain ⟨hc, hr⟩ := hc
    obtain ⟨l, hd⟩ : ∃ l, decodeS [108, 108, 108, 108, 116] b = (l, 0) := ⟨_, Prod.ext rfl hc⟩
    rw [hd] at h hr
    dsimp only at h hr
    obtain ⟨v0, v1, v2, v3, t4, rfl, _, _, _, _, e, he, hbe⟩ := frm_items hb hd
    obtain ⟨rfl, _⟩ := Prod.mk.inj h
    refine ⟨hr, ?_⟩
    have he2 := fItems_enc hr
    have : fItems (frmOf [⟨3, v0, ⟨#[]⟩⟩, ⟨3, v1, ⟨#[]⟩⟩, ⟨3, v2, ⟨#[]⟩⟩, ⟨3, v3, ⟨#[]⟩⟩, ⟨4, 0, t4⟩]) = [⟨3, v0, ⟨#[]⟩⟩, ⟨3, v1, ⟨#[]⟩⟩, ⟨3, v2, ⟨#[]⟩⟩, ⟨3, v3, ⟨#[]⟩⟩, ⟨4, 0, t4⟩] := rfl
    rw [this, he] at he2
    cases he2
    exact hbe
  · simp at h
theorem frmV_or (b : ByteArray) : (∃ r, frmV b = (r, 0) ∧ RightF r) ∨ frmV b = (zF, 10) := by
  unfold frmV
  split
  · rename_i hc
    exact .inl ⟨_, rfl, hc.2⟩
  · exact .inr rfl
theorem lenc_is (r : SF) (h0 : -9223372036854775808 ≤ r.f0) (k : Nat) (hk : 1012 ≤ k) : link_Encode.f k r.f0 r.f1 r.f2 r.f3 r.f4 = some (if RightF r then (frame (frmB r), 0) else (⟨#[]⟩, 1)) := by
  unfold link_Encode.f
  rw [lright_is r h0]
  simp only [Option.bind_some]
  by_cases h : RightF r
  · obtain ⟨a0, a1, a2, a3, a4⟩ := rightF_all h
    rw [if_pos (decide_eq_true h), if_pos h, wrapU64 (by omega) (by omega), wrapU64 (by omega) (by omega), wrapU64 (by omega) (by omega), wrapU64 (by omega) (by omega)]
    rw [if_pos (by simp)]
    simp only [Option.bind_some, List.nil_append, List.cons_append, List.singleton_append, List.length_cons, List.length_nil]
    rw [if_pos (by decide), if_pos (by decide), if_pos (by decide), if_pos (by decide)]
    rw [show codec_Encode.f k [(⟨3, r.f0, ⟨#[]⟩⟩ : SI), ⟨3, r.f1, ⟨#[]⟩⟩, ⟨3, r.f2, ⟨#[]⟩⟩, ⟨3, r.f3, ⟨#[]⟩⟩, ⟨4, 0, r.f4⟩] = some (frmB r, 0) from (encode_is (fItems r) (fItems_wf h) k hk).trans (by rw [fItems_encS h])]
    simp only [Option.bind_some, if_true]
    have := frmB_le h
    rw [frame_is, if_neg (by omega)]
    rfl
  · rw [if_neg (by simpa using h), if_neg h]
/-- What is read of bytes. -/
def lnkV (s : ByteArray) : SF × Int := if (takeV s).2.2 ≠ 0 then (zF, (takeV s).2.2) else if (takeV s).2.1 = (s.size : Int) then frmV (takeV s).1 else (zF, 10)
theorem mx_le {a b c d m : Int} : mx (mx (mx a b) c) d > m ↔ a > m ∨ b > m ∨ c > m ∨ d > m := by
  unfold mx
  repeat' split
  all_goals omega
theorem ldec_is (s : ByteArray) (hs : s.size ≤ 1000000000000000) (k : Nat) (hk : 6010 ≤ k) : link_Decode.f k s = some ((lnkV s).1.f0, (lnkV s).1.f1, (lnkV s).1.f2, (lnkV s).1.f3, (lnkV s).1.f4, (lnkV s).2) := by
  unfold link_Decode.f
  rw [take_is s (by omega)]
  simp only [Option.bind_some]
  have htt := take_tells s
  unfold lnkV
  by_cases h0 : (takeV s).2.2 = 0
  case neg =>
    rw [if_neg h0, if_pos h0]
    rfl
  rw [if_pos h0, if_neg (fun h => h h0)]
  have hbs : (takeV s).1.size ≤ 1000000000000000 := by
    rcases htt with ⟨_, _, h⟩ | ⟨h, _⟩
    · omega
    · exact absurd h0 h
  generalize (takeV s).1 = b at hbs ⊢
  rw [decode_is _ b (by decide) hbs k (by omega)]
  simp only [Option.bind_some]
  by_cases h : (decodeS [108, 108, 108, 108, 116] b).2 = 0
  case neg =>
    have hv : frmV b = (zF, 10) := by unfold frmV; rw [if_neg (fun hc => h hc.1)]
    rw [hv]
    rw [show (decodeS (⟨#[108, 108, 108, 108, 116]⟩ : ByteArray).data.toList b).2 = (decodeS [108, 108, 108, 108, 116] b).2 from rfl, if_neg h]
    split <;> rfl
  obtain ⟨l, hd⟩ : ∃ l, decodeS [108, 108, 108, 108, 116] b = (l, 0) := ⟨_, Prod.ext rfl h⟩
  obtain ⟨v0, v1, v2, v3, t4, rfl, p0, p1, p2, p3, _⟩ := frm_items hbs hd
  have hrv : frmV b = if RightF ⟨v0, v1, v2, v3, t4⟩ then (⟨v0, v1, v2, v3, t4⟩, 0) else (zF, 10) := by
    unfold frmV
    rw [hd]
    dsimp only
    by_cases hr : RightF ⟨v0, v1, v2, v3, t4⟩
    · rw [if_pos hr, if_pos ⟨rfl, hr⟩]; rfl
    · rw [if_neg hr, if_neg (fun hc => hr hc.2)]
  rw [show decodeS (⟨#[108, 108, 108, 108, 116]⟩ : ByteArray).data.toList b = ([⟨3, v0, ⟨#[]⟩⟩, ⟨3, v1, ⟨#[]⟩⟩, ⟨3, v2, ⟨#[]⟩⟩, ⟨3, v3, ⟨#[]⟩⟩, ⟨4, 0, t4⟩], 0) from hd]
  dsimp only
  rw [if_pos rfl]
  by_cases hsz : (takeV s).2.1 = (s.size : Int)
  case neg => rw [if_neg hsz, if_neg hsz]; rfl
  rw [if_pos hsz, if_pos hsz, hrv]
  have r0 : rd_T50 [(⟨3, v0, ⟨#[]⟩⟩ : SI), ⟨3, v1, ⟨#[]⟩⟩, ⟨3, v2, ⟨#[]⟩⟩, ⟨3, v3, ⟨#[]⟩⟩, ⟨4, 0, t4⟩] 0 = ⟨3, v0, ⟨#[]⟩⟩ := rfl
  have r1 : rd_T50 [(⟨3, v0, ⟨#[]⟩⟩ : SI), ⟨3, v1, ⟨#[]⟩⟩, ⟨3, v2, ⟨#[]⟩⟩, ⟨3, v3, ⟨#[]⟩⟩, ⟨4, 0, t4⟩] 1 = ⟨3, v1, ⟨#[]⟩⟩ := rfl
  have r2 : rd_T50 [(⟨3, v0, ⟨#[]⟩⟩ : SI), ⟨3, v1, ⟨#[]⟩⟩, ⟨3, v2, ⟨#[]⟩⟩, ⟨3, v3, ⟨#[]⟩⟩, ⟨4, 0, t4⟩] 2 = ⟨3, v2, ⟨#[]⟩⟩ := rfl
  have r3 : rd_T50 [(⟨3, v0, ⟨#[]⟩⟩ : SI), ⟨3, v1, ⟨#[]⟩⟩, ⟨3, v2, ⟨#[]⟩⟩, ⟨3, v3, ⟨#[]⟩⟩, ⟨4, 0, t4⟩] 3 = ⟨3, v3, ⟨#[]⟩⟩ := rfl
  have r4 : rd_T50 [(⟨3, v0, ⟨#[]⟩⟩ : SI), ⟨3, v1, ⟨#[]⟩⟩, ⟨3, v2, ⟨#[]⟩⟩, ⟨3, v3, ⟨#[]⟩⟩, ⟨4, 0, t4⟩] 4 = ⟨4, 0, t4⟩ := rfl
  rw [r0, r1, r2, r3, r4, if_pos (by simp), if_pos (by simp), if_pos (by simp), if_pos (by simp)]
  dsimp only
  by_cases hm : v0 > 9007199254740991 ∨ v1 > 9007199254740991 ∨ v2 > 9007199254740991 ∨ v3 > 9007199254740991
  · rw [if_pos (mx_le.2 hm), if_neg (fun h => by obtain ⟨a0, a1, a2, a3, a4⟩ := rightF_all h; dsimp only at a0 a1 a2 a3; omega)]
    rfl
  rw [if_neg (fun h => hm (mx_le.1 h)), if_pos (by simp), show wrap64 v0 = v0 by unfold wrap64; omega, show wrap64 v1 = v1 by unfold wrap64; omega, show wrap64 v2 = v2 by unfold wrap64; omega, show wrap64 v3 = v3 by unfold wrap64; omega]
  rw [show link_right.f v0 v1 v2 v3 t4 = some (decide (RightF ⟨v0, v1, v2, v3, t4⟩)) from lright_is ⟨v0, v1, v2, v3, t4⟩ (by dsimp only; omega)]
  simp only [Option.bind_some]
  by_cases hr : RightF ⟨v0, v1, v2, v3, t4⟩
  · rw [if_pos (decide_eq_true hr), if_pos hr]
  · rw [if_neg (by simpa using hr), if_neg hr]
    rfl
theorem lnkV_enc {r : SF} (h : RightF r) : lnkV (frame (frmB r)) = (r, 0) := by
  have hle := frmB_le h
  have ht := take_frame (frmB r) (by omega) (frame (frmB r)) [] (by rw [List.append_nil]; exact frame_ls _)
  unfold lnkV
  rw [ht, if_neg (by simp), if_pos (by rw [frame_size])]
  exact frmV_enc h
theorem lnkV_or (s : ByteArray) : (∃ r, lnkV s = (r, 0) ∧ RightF r) ∨ ∃ e, e ≠ 0 ∧ lnkV s = (zF, e) := by
  unfold lnkV
  split
  · rename_i h
    exact .inr ⟨_, h, rfl⟩
  · split
    · rcases frmV_or (takeV s).1 with h | h
      · exact .inl h
      · exact .inr ⟨10, by decide, h⟩
    · exact .inr ⟨10, by decide, rfl⟩
theorem word4_num {l : List UInt8} (h : 4 ≤ l.length) : word4 (num4 l) = l.take 4 := by
  rcases l with _ | ⟨a, _ | ⟨b, _ | ⟨c, _ | ⟨d, l⟩⟩⟩⟩
  · simp at h
  · simp at h
  · simp at h
  · simp at h
  · have h0 : by8 (a :: b :: c :: d :: l) 0 = a.toNat := rfl
    have h1 : by8 (a :: b :: c :: d :: l) 1 = b.toNat := rfl
    have h2 : by8 (a :: b :: c :: d :: l) 2 = c.toNat := rfl
    have h3 : by8 (a :: b :: c :: d :: l) 3 = d.toNat := rfl
    unfold num4 word4
    rw [h0, h1, h2, h3]
    have la := a.toNat_lt
    have lb := b.toNat_lt
    have lc := c.toNat_lt
    have ld := d.toNat_lt
    have key : ∀ (n : Nat) (x : UInt8), n % 256 = x.toNat → UInt8.ofNat n = x := fun n x e => by
      apply UInt8.toNat_inj.1
      rw [UInt8.toNat_ofNat', e]
    show [_, _, _, _] = [a, b, c, d]
    rw [key _ a (by omega), key _ b (by omega), key _ c (by omega), key _ d (by omega)]
/-- What is taken whole is the frame of what was taken. -/
theorem take_whole {s : ByteArray} (h0 : (takeV s).2.2 = 0) (h1 : (takeV s).2.1 = (s.size : Int)) : frame (takeV s).1 = s := by
  unfold takeV at h0 h1 ⊢
  split at h0
  · exact absurd (show (2 : Int) = 0 from h0) (by decide)
  · rename_i c0
    rw [if_neg c0] at h1 ⊢
    split at h0
    · exact absurd (show (3 : Int) = 0 from h0) (by decide)
    · rename_i c1
      rw [if_neg c1] at h1 ⊢
      split at h0
      · exact absurd (show (2 : Int) = 0 from h0) (by decide)
      · rename_i c2
        rw [if_neg c2] at h1 ⊢
        split at h0
        · rename_i c3
          rw [if_pos c3] at h1 ⊢
          have h1 : ((8 + num4 (ls s) : Nat) : Int) = (s.size : Int) := h1
          have hsz : s.size = 8 + num4 (ls s) := by omega
          have hl := ls_len s
          apply ls_inj
          show ls (frame (s.extract 8 (8 + num4 (ls s)))) = ls s
          rw [frame_ls]
          unfold frameL
          rw [ls_extract, show 8 + num4 (ls s) - 8 = num4 (ls s) by omega]
          have e1 : (((ls s).drop 8).take (num4 (ls s))).length = num4 (ls s) := by rw [List.length_take, List.length_drop]; omega
          have e2 : ((ls s).drop 8).take (num4 (ls s)) = (ls s).drop 8 := List.take_of_length_le (by rw [List.length_drop]; omega)
          have e3 : word4 (num4 (ls s)) = (ls s).take 4 := word4_num (by omega)
          rw [e1, e3, c3, word4_num (by rw [List.length_drop]; omega), e2]
          have e4 : (ls s).take 4 ++ ((ls s).drop 4).take 4 = (ls s).take 8 := by
            rw [show 8 = 4 + 4 from rfl, List.take_add]
          rw [e4, List.take_append_drop]
        · exact absurd (show (4 : Int) = 0 from h0) (by decide)
theorem lnkV_back {s : ByteArray} (hs : s.size ≤ 1000000000000000) {r : SF} (h : lnkV s = (r, 0)) : RightF r ∧ frame (frmB r) = s := by
  unfold lnkV at h
  split at h
  · rename_i h0
    obtain ⟨_, h⟩ := Prod.mk.inj h
    exact absurd h h0
  · rename_i h0
    have h0 : (takeV s).2.2 = 0 := Classical.not_not.1 h0
    split at h
    · rename_i h1
      have hbs : (takeV s).1.size ≤ 1000000000000000 := by
        rcases take_tells s with ⟨_, _, hh⟩ | ⟨hh, _⟩
        · omega
        · exact absurd h0 hh
      obtain ⟨hr, hb⟩ := frmV_back hbs h
      exact ⟨hr, by rw [← hb]; exact take_whole h0 h1⟩
    · exact absurd (Prod.mk.inj h).2 (by decide)
end Go.Proofs.YtdpogggajdfedaaDoor.P
