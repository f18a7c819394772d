/- The law CommandAsks, over plain functions. -/
import Derived.OpenShut
import Derived.Test.YtpgiagdpepkooaaDoorPx4
import Derived.Test.YtpgiagdpepkooaaDoorPx7
import Derived.Test.YtpgiagdpepkooaaDoorPx3
import Derived.Test.YtpgiagdpepkooaaDoorPx5
import Derived.Test.YtpgiagdpepkooaaDoorPx9
import Derived.Test.YtpgiagdpepkooaaDoorPx8
import Derived.Test.YtpgiagdpepkooaaDoorPx14
import Derived.Test.YtpgiagdpepkooaaDoorPx15
import Derived.Test.YtpgiagdpepkooaaDoorPx17
import Derived.Test.YtpgiagdpepkooaaDoorPx18
import Derived.Test.YtpgiagdpepkooaaDoorPx36
import Derived.Test.YtpgiagdpepkooaaDoorPx20
import Derived.Test.YtpgiagdpepkooaaDoorPx35
import Derived.Test.YtpgiagdpepkooaaDoorPx40
import Derived.Test.YtpgiagdpepkooaaDoorKinds
import Derived.Test.YtpgiagdpepkooaaDoorPx32
namespace Go.Proofs.YtpgiagdpepkooaaDoor.P
open Go.RowKit Go.Proofs.YtpgiagdpepkooaaDoorW.PrintWords Go.Proofs.YtpgiagdpepkooaaDoorW.PrintLast Go.Proofs.YtpgiagdpepkooaaDoorW.PrintMore
set_option linter.unusedSimpArgs false
set_option linter.unusedVariables false
set_option maxRecDepth 100000
theorem wrap64_id {n : Int} (h0 : -9223372036854775808 ≤ n) (h1 : n < 9223372036854775808) : wrap64 n = n := by unfold wrap64; omega
theorem data_len (s : ByteArray) : s.data.toList.length = s.size := by rw [Array.length_toList]; rfl
theorem toList_eq (s : ByteArray) : s.toList = s.data.toList := (Lib.toList_data s)
theorem bt_get (s : ByteArray) (i : Nat) (h : i < s.size) : bt s (i : Int) = (((s.data.toList.getD i 0).toNat : Nat) : Int) := by
  have e : ((i : Int)).toNat = i := rfl
  unfold bt
  rw [dif_pos (by rw [e]; exact h), List.getD_eq_getElem?_getD, List.getElem?_eq_getElem (by rw [data_len]; exact h)]
  rfl
/-- A letter's kind. -/
def kindI (c : UInt8) : Int := if c = 98 then 1 else if c = 119 then 2 else if c = 108 then 3 else if c = 116 then 4 else 0
theorem kindI_range (c : UInt8) : 0 ≤ kindI c ∧ kindI c ≤ 4 := by unfold kindI; repeat' split <;> omega
theorem idx_kind (c : UInt8) : Lib.indexByte [98, 119, 108, 116] c = kindI c - 1 := by
  unfold kindI
  by_cases h1 : c = 98
  · subst h1; rfl
  by_cases h2 : c = 119
  · subst h2; rfl
  by_cases h3 : c = 108
  · subst h3; rfl
  by_cases h4 : c = 116
  · subst h4; rfl
  rw [if_neg h1, if_neg h2, if_neg h3, if_neg h4]
  have e1 : (98 == c) = false := by simpa using fun h => h1 h.symm
  have e2 : (119 == c) = false := by simpa using fun h => h2 h.symm
  have e3 : (108 == c) = false := by simpa using fun h => h3 h.symm
  have e4 : (116 == c) = false := by simpa using fun h => h4 h.symm
  simp [Lib.indexByte, e1, e2, e3, e4]
theorem letB_iff (c : UInt8) : letB c = true ↔ 1 ≤ kindI c := by
  unfold letB
  rw [idx_kind]
  simp only [Bool.not_eq_true', decide_eq_false_iff_not]
  omega
theorem idx_none (l : List UInt8) (c : UInt8) (h : c ∉ l) : Lib.indexByte l c = -1 := by
  induction l with
  | nil => rfl
  | cons b l ih =>
    simp only [List.mem_cons, not_or] at h
    have e : (b == c) = false := by simpa using fun x => h.1 x.symm
    simp [Lib.indexByte, e, ih h.2]
theorem idx_some (hd tl : List UInt8) (c : UInt8) (h : c ∉ hd) : Lib.indexByte (hd ++ c :: tl) c = hd.length := by
  induction hd with
  | nil => simp [Lib.indexByte]
  | cons b l ih =>
    simp only [List.mem_cons, not_or] at h
    have e : (b == c) = false := by simpa using fun x => h.1 x.symm
    have := ih h.2
    simp only [List.cons_append, Lib.indexByte, e, this]
    have : ((l.length : Int) == -1) = false := beq_eq_false_iff_ne.mpr (by omega)
    simp [this]
theorem cut_at (l : List UInt8) (c : UInt8) (h : c ∈ l) : ∃ hd tl, l = hd ++ c :: tl ∧ c ∉ hd := by
  induction l with
  | nil => simp at h
  | cons b l ih =>
    by_cases e : b = c
    · exact ⟨[], l, by simp [e], by simp⟩
    · have : c ∈ l := by simpa [Ne.symm e] using h
      obtain ⟨hd, tl, h1, h2⟩ := ih this
      exact ⟨b :: hd, tl, by rw [h1]; rfl, by simp [h2, Ne.symm e]⟩
/-- How many bytes a number of a kind has. -/
def widthI (k : Int) : Nat := if k = 1 then 1 else if k = 2 then 4 else if k = 3 then 8 else 0
/-- What is read of bytes by one kind: the item and the rest, or the error. -/
def takeS (k : Int) (s : ByteArray) : Except Int (S57 × ByteArray) :=
  if k = 4 then
    if s.size < 4 then .error 2 else
    if 100000 < beNat (s.data.toList.take 4) then .error 3 else
    if s.size - 4 < beNat (s.data.toList.take 4) then .error 2 else
    .ok (⟨4, 0, s.extract 4 (4 + beNat (s.data.toList.take 4))⟩, s.extract (4 + beNat (s.data.toList.take 4)) s.size)
  else if s.size < widthI k then .error 2 else
    .ok (⟨k, ((beNat (s.data.toList.take (widthI k)) : Nat) : Int), ⟨#[]⟩⟩, s.extract (widthI k) s.size)
/-- What comes next: the end, or a kind. -/
def nextK (b : List Int) : List Int → ByteArray → List S57 → (List S57 × Int) ⊕ (Int × List Int)
  | k :: ks, _, _ => .inr (k, ks)
  | [], s, out => match b with
    | [] => .inl (if s.toList = ([] : List UInt8) then (out, 0) else ([], 10))
    | k :: ks => if s.toList = ([] : List UInt8) then .inl (out, 0) else .inr (k, ks)
/-- The items, at most n more: cur: the kinds till the shape's end (or its star's), b: those behind a star. -/
def decS (b : List Int) : Nat → List Int → List S57 → ByteArray → List S57 × Int
  | 0, cur, out, s => match nextK b cur s out with
    | .inl r => r
    | .inr _ => ([], 3)
  | n + 1, cur, out, s => match nextK b cur s out with
    | .inl r => r
    | .inr (k, ks) => match takeS k s with
      | .error e => ([], e)
      | .ok (x, s') => decS b n ks (out ++ [x]) s'
/-- A shape's kinds: ahead of a star, behind it. -/
def parseS (L : List UInt8) : Option (List Int × List Int) :=
  if 42 ∈ L then
    (if ((L.takeWhile (fun c => c != 42)) ++ (L.dropWhile (fun c => c != 42)).drop 1).all letB && !((L.dropWhile (fun c => c != 42)).drop 1).isEmpty then some ((L.takeWhile (fun c => c != 42)).map kindI, ((L.dropWhile (fun c => c != 42)).drop 1).map kindI) else none)
  else if L.all letB then some (L.map kindI, []) else none
def decodeS (L : List UInt8) (s : ByteArray) : List S57 × Int := match parseS L with
  | none => ([], 1)
  | some (a, b) => decS b 1000 a [] s
theorem tw_cut (hd tl : List UInt8) (h : (42 : UInt8) ∉ hd) : (hd ++ 42 :: tl).takeWhile (fun c => c != 42) = hd ∧ (hd ++ 42 :: tl).dropWhile (fun c => c != 42) = 42 :: tl := by
  induction hd with
  | nil => simp
  | cons b l ih =>
    simp only [List.mem_cons, not_or] at h
    have e : (b != 42) = true := by simpa using fun x => h.1 x.symm
    have := ih h.2
    simp [List.takeWhile_cons, List.dropWhile_cons, e, this.1, this.2]
theorem parse_star (hd tl : List UInt8) (h : (42 : UInt8) ∉ hd) : parseS (hd ++ 42 :: tl) = if (hd ++ tl).all letB && !tl.isEmpty then some (hd.map kindI, tl.map kindI) else none := by
  unfold parseS
  rw [if_pos (by simp), (tw_cut hd tl h).1, (tw_cut hd tl h).2]
  rfl
theorem parse_plain (L : List UInt8) (h : (42 : UInt8) ∉ L) : parseS L = if L.all letB then some (L.map kindI, []) else none := by
  unfold parseS
  rw [if_neg h]
theorem ext_list (s : ByteArray) (i j : Nat) : (s.extract i j).data.toList = (s.data.toList.drop i).take (j - i) := by
  rw [ByteArray.data_extract, Array.toList_extract, List.extract_eq_take_drop]
theorem ba_eq {s t : ByteArray} (h : s.data.toList = t.data.toList) : s = t := by
  obtain ⟨⟨l⟩⟩ := s
  obtain ⟨⟨m⟩⟩ := t
  simp at h
  rw [h]
/-- 'strings.Cut' at a star. -/
theorem cut_star (a0 : ByteArray) (hd tl : List UInt8) (h : a0.data.toList = hd ++ 42 :: tl) (hn : (42 : UInt8) ∉ hd) (hs : a0.size ≤ 140737488351232) :
    strings_Cut.f a0 (⟨#[42]⟩ : ByteArray) = some (⟨hd.toArray⟩, ⟨tl.toArray⟩, true) := by
  have hl : hd.length + 1 + tl.length = a0.size := by rw [← data_len, h]; simp; omega
  have e : stringslite_Index.f a0 (⟨#[42]⟩ : ByteArray) = some (Lib.indexByte a0.data.toList 42) := rfl
  unfold strings_Cut.f stringslite_Cut.f
  rw [e, h, idx_some hd tl 42 hn]
  simp only [Option.bind_some]
  have hw : wrap64 ((hd.length : Int) + (((⟨#[42]⟩ : ByteArray).size : Nat) : Int)) = ((hd.length + 1 : Nat) : Int) := by
    rw [show (⟨#[42]⟩ : ByteArray).size = 1 from rfl, wrap64_id] <;> omega
  rw [if_pos (by omega), if_pos (by omega), if_pos (by omega), hw, if_pos (by omega), if_pos (by omega)]
  simp only [Option.bind_some]
  rw [show ((hd.length : Nat) : Int).toNat = hd.length from rfl, show ((hd.length + 1 : Nat) : Int).toNat = hd.length + 1 from rfl]
  have e1 : a0.extract 0 hd.length = ⟨hd.toArray⟩ := ba_eq (by rw [ext_list, h]; simp)
  have e2 : a0.extract (hd.length + 1) a0.size = ⟨tl.toArray⟩ := ba_eq (by
    rw [ext_list, h, show hd ++ 42 :: tl = (hd ++ [42]) ++ tl by simp, List.drop_left' (by simp), List.take_of_length_le (by omega)])
  rw [e1, e2]
theorem cut_plain (a0 : ByteArray) (hn : (42 : UInt8) ∉ a0.data.toList) : strings_Cut.f a0 (⟨#[42]⟩ : ByteArray) = some (a0, ⟨#[]⟩, false) := by
  have e : stringslite_Index.f a0 (⟨#[42]⟩ : ByteArray) = some (Lib.indexByte a0.data.toList 42) := rfl
  unfold strings_Cut.f stringslite_Cut.f
  rw [e, idx_none _ _ hn]
  rfl
theorem right_is (a0 : ByteArray) (hs : a0.size ≤ 140737488351232) : codec_right.f a0 = some (parseS a0.data.toList).isSome := by
  unfold codec_right.f
  by_cases h : (42 : UInt8) ∈ a0.data.toList
  · obtain ⟨hd, tl, h1, h2⟩ := cut_at _ _ h
    have hl : hd.length + 1 + tl.length = a0.size := by rw [← data_len, h1]; simp; omega
    rw [cut_star a0 hd tl h1 h2 hs, h1, parse_star hd tl h2]
    simp only [Option.bind_some]
    have e1 : (⟨hd.toArray⟩ : ByteArray).size = hd.length := by show hd.toArray.size = _; simp
    have e2 : (⟨tl.toArray⟩ : ByteArray).size = tl.length := by show tl.toArray.size = _; simp
    rw [if_pos (by rw [e1, e2]; omega)]
    have e3 : ((⟨hd.toArray⟩ : ByteArray) ++ (⟨tl.toArray⟩ : ByteArray)).data.toList = hd ++ tl := by rw [ByteArray.data_append]; simp
    have e4 : (⟨tl.toArray⟩ : ByteArray).toList = tl := by rw [toList_eq]
    rw [e3, e4]
    cases tl <;> cases (hd ++ _).all letB <;> rfl
  · rw [cut_plain a0 h, parse_plain _ h]
    simp only [Option.bind_some]
    have e0 : (⟨#[]⟩ : ByteArray).size = 0 := rfl
    rw [if_pos (by rw [e0]; omega)]
    have e3 : (a0 ++ (⟨#[]⟩ : ByteArray)).data.toList = a0.data.toList := by rw [ByteArray.data_append]; simp
    rw [e3]
    cases a0.data.toList.all letB <;> rfl
theorem num_is (s : ByteArray) (k : Int) (h1 : 1 ≤ k) (h3 : k ≤ 3) : codec_reader_number.f s 0 (rd sizTabI k) = if s.size < widthI k then some (0, s, 2) else some (((beNat (s.data.toList.take (widthI k)) : Nat) : Int), s.extract (widthI k) s.size, 0) := by
  have e : rd sizTabI k = ((widthI k : Nat) : Int) ∧ widthI k ≤ 8 := by
    have : k = 1 ∨ k = 2 ∨ k = 3 := by omega
    rcases this with rfl | rfl | rfl <;> exact ⟨rfl, by decide⟩
  unfold codec_reader_number.f
  rw [e.1]
  have h8 := e.2
  by_cases h : s.size < widthI k
  · rw [if_pos (by omega), if_pos h]
  · rw [if_neg (by omega), if_neg h, if_pos (by omega)]
    rfl
theorem text_is (s : ByteArray) (hs : s.size ≤ 1000000000000000) : codec_reader_text.f s 0 =
    if s.size < 4 then some (⟨#[]⟩, s, 2) else if 100000 < beNat (s.data.toList.take 4) then some (⟨#[]⟩, s.extract 4 s.size, 3) else
    if s.size - 4 < beNat (s.data.toList.take 4) then some (⟨#[]⟩, s.extract 4 s.size, 2) else
    some (s.extract 4 (4 + beNat (s.data.toList.take 4)), s.extract (4 + beNat (s.data.toList.take 4)) s.size, 0) := by
  unfold codec_reader_text.f codec_reader_number.f
  by_cases h : s.size < 4
  · rw [if_pos (by omega), if_pos h]
    rfl
  · rw [if_neg (by omega), if_neg h, if_pos (by omega)]
    simp only [Option.bind_some, show ((4 : Int)).toNat = 4 from rfl, if_true]
    have hz : (s.extract 4 s.size).size = s.size - 4 := by rw [ByteArray.size_extract]; omega
    obtain ⟨v, hv⟩ : ∃ v, v = beNat (s.data.toList.take 4) := ⟨_, rfl⟩
    rw [← hv]
    have hw : IntKind.u64.wrap (((s.extract 4 s.size).size : Nat) : Int) = ((s.size - 4 : Nat) : Int) := by
      rw [hz]
      show ((s.size - 4 : Nat) : Int) % 18446744073709551616 = _
      omega
    rw [hw, hz]
    by_cases h1 : 100000 < v
    · rw [if_pos (by omega), if_pos h1]
    · rw [if_neg (by omega), if_neg h1]
      by_cases h2 : s.size - 4 < v
      · rw [if_pos (by omega), if_pos h2]
      · rw [if_neg (by omega), if_neg h2, if_pos (by omega), if_pos (by omega)]
        have e1 : (s.extract 4 s.size).extract 0 ((v : Int)).toNat = s.extract 4 (4 + v) := ba_eq (by
          rw [show ((v : Int)).toNat = v from rfl, ext_list, ext_list, ext_list, List.drop_zero, List.take_take, Nat.sub_zero, show 4 + v - 4 = v by omega, Nat.min_eq_left (by omega)])
        have e2 : (s.extract 4 s.size).extract ((v : Int)).toNat (s.size - 4) = s.extract (4 + v) s.size := ba_eq (by
          rw [show ((v : Int)).toNat = v from rfl, ext_list, ext_list, ext_list, List.drop_take, List.drop_drop, List.take_take, Nat.min_eq_left (by omega), show s.size - 4 - v = s.size - (4 + v) by omega])
        rw [e1, e2]
theorem take_size {k : Int} {s : ByteArray} {x : S57} {s' : ByteArray} (h : takeS k s = .ok (x, s')) : s'.size ≤ s.size := by
  unfold takeS at h
  split at h
  · split at h
    · cases h
    · split at h
      · cases h
      · split at h
        · cases h
        · cases h
          rw [ByteArray.size_extract]; omega
  · split at h
    · cases h
    · cases h
      rw [ByteArray.size_extract]; omega
/-- One item of the program's loop. -/
theorem tail_is (k : Nat) (a0 : ByteArray) (st : Int) (out : List S57) (i : Nat) (s : ByteArray) (c : UInt8) (hi : i < a0.size) (hz : a0.size ≤ 140737488351232) (hc : a0.data.toList.getD i 0 = c) (hk : 1 ≤ kindI c) (ho : out.length ≤ 1000) (hs : s.size ≤ 1000000000000000) :
    codec_Decode.j4 (k + 2) a0 st out (i : Int) s 0 = if out.length = 1000 then some ([], 3) else match takeS (kindI c) s with
      | .error e => some ([], e)
      | .ok (x, s') => codec_Decode.l0 k a0 st (out ++ [x]) ((i + 1 : Nat) : Int) s' 0 := by
  have hr := kindI_range c
  have eb : strings_IndexByte.f (⟨#[98, 119, 108, 116]⟩ : ByteArray) (bt a0 (i : Int)) = some (kindI c - 1) := by
    rw [bt_get a0 i hi, hc]
    show some (Lib.indexByte [98, 119, 108, 116] (((c.toNat : Nat) : Int).toNat.toUInt8)) = _
    rw [toNat_toUInt8, idx_kind]
  simp only [codec_Decode.j4]
  rw [if_pos (by omega), if_pos (by omega), eb]
  simp only [Option.bind_some]
  rw [show (1 : Int) + (kindI c - 1) = kindI c by omega, wrap64_id (by omega) (by omega)]
  by_cases h0 : out.length = 1000
  · rw [if_pos (by omega), if_pos h0]
  · rw [if_neg (by omega), if_neg h0]
    have ew : wrap64 ((i : Int) + 1) = ((i + 1 : Nat) : Int) := by rw [wrap64_id] <;> omega
    by_cases h4 : kindI c = 4
    · rw [if_pos h4, text_is s hs, h4]
      unfold takeS
      rw [if_pos rfl]
      by_cases g1 : s.size < 4
      · rw [if_pos g1, if_pos g1]; simp [codec_Decode.j5]
      · rw [if_neg g1, if_neg g1]
        by_cases g2 : 100000 < beNat (s.data.toList.take 4)
        · rw [if_pos g2, if_pos g2]; simp [codec_Decode.j5]
        · rw [if_neg g2, if_neg g2]
          by_cases g3 : s.size - 4 < beNat (s.data.toList.take 4)
          · rw [if_pos g3, if_pos g3]; simp [codec_Decode.j5]
          · rw [if_neg g3, if_neg g3]
            simp only [Option.bind_some, codec_Decode.j5, if_true]
            rw [if_pos (by omega), ew]
    · rw [if_neg h4, if_pos (by omega), if_pos (by omega), num_is s (kindI c) hk (by omega)]
      unfold takeS
      rw [if_neg h4]
      by_cases g1 : s.size < widthI (kindI c)
      · rw [if_pos g1, if_pos g1]; simp [codec_Decode.j5]
      · rw [if_neg g1, if_neg g1]
        simp only [Option.bind_some, codec_Decode.j5, if_true]
        rw [if_pos (by omega), ew]
/-- Without a star. -/
theorem dec_plain (a0 : ByteArray) (hz : a0.size ≤ 140737488351232) (hl : a0.data.toList.all letB = true) (n : Nat) : ∀ (i : Nat) (out : List S57) (s : ByteArray) (k : Nat), out.length + n = 1000 → i ≤ a0.size → s.size ≤ 1000000000000000 → 6 * n + 8 ≤ k →
    codec_Decode.l0 k a0 (-1) out (i : Int) s 0 = some (decS [] n ((a0.data.toList.drop i).map kindI) out s) := by
  induction n with
  | zero =>
    intro i out s k ho hi hs hk
    obtain ⟨k, rfl⟩ : ∃ m, k = m + 6 := ⟨k - 6, by omega⟩
    have up : codec_Decode.l0 (k + 6) a0 (-1) out (i : Int) s 0 = codec_Decode.j4 (k + 2) a0 (-1) out (i : Int) s 0 := by
      by_cases h : (i : Int) = (a0.size : Int)
      · simp only [codec_Decode.l0, codec_Decode.j1, codec_Decode.j2, codec_Decode.j3]
        rw [if_pos h, show decide ((-1 : Int) ≥ 0) = false from rfl, if_neg (by decide), if_neg (by omega), if_neg (by decide)]
      · simp only [codec_Decode.l0, codec_Decode.j1, codec_Decode.j2, codec_Decode.j3]
        rw [if_neg h, if_neg (by decide), if_neg (by omega), if_neg (by decide)]
    rw [up]
    by_cases h : i = a0.size
    · subst h
      rw [List.drop_of_length_le (by rw [data_len]; exact Nat.le_refl _)]
      simp only [codec_Decode.j4, List.map_nil, decS, nextK]
      rw [if_neg (by omega)]
      split <;> rfl
    · have hlt : i < a0.data.toList.length := by rw [data_len]; omega
      have hg : a0.data.toList.getD i 0 = a0.data.toList[i] := by rw [List.getD_eq_getElem?_getD, List.getElem?_eq_getElem hlt]; rfl
      have hk1 := (letB_iff _).1 (List.all_eq_true.1 hl _ (List.getElem_mem hlt))
      rw [tail_is k a0 (-1) out i s _ (by omega) hz hg hk1 (by omega) hs, if_pos (by omega), List.drop_eq_getElem_cons hlt]
      rfl
  | succ n ih =>
    intro i out s k ho hi hs hk
    obtain ⟨k, rfl⟩ : ∃ m, k = m + 6 := ⟨k - 6, by omega⟩
    have up : codec_Decode.l0 (k + 6) a0 (-1) out (i : Int) s 0 = codec_Decode.j4 (k + 2) a0 (-1) out (i : Int) s 0 := by
      by_cases h : (i : Int) = (a0.size : Int)
      · simp only [codec_Decode.l0, codec_Decode.j1, codec_Decode.j2, codec_Decode.j3]
        rw [if_pos h, show decide ((-1 : Int) ≥ 0) = false from rfl, if_neg (by decide), if_neg (by omega), if_neg (by decide)]
      · simp only [codec_Decode.l0, codec_Decode.j1, codec_Decode.j2, codec_Decode.j3]
        rw [if_neg h, if_neg (by decide), if_neg (by omega), if_neg (by decide)]
    rw [up]
    by_cases h : i = a0.size
    · subst h
      rw [List.drop_of_length_le (by rw [data_len]; exact Nat.le_refl _)]
      simp only [codec_Decode.j4, List.map_nil, decS, nextK]
      rw [if_neg (by omega)]
      split <;> rfl
    · have hlt : i < a0.data.toList.length := by rw [data_len]; omega
      have hg : a0.data.toList.getD i 0 = a0.data.toList[i] := by rw [List.getD_eq_getElem?_getD, List.getElem?_eq_getElem hlt]; rfl
      have hk1 := (letB_iff _).1 (List.all_eq_true.1 hl _ (List.getElem_mem hlt))
      rw [tail_is k a0 (-1) out i s _ (by omega) hz hg hk1 (by omega) hs, if_neg (by omega), List.drop_eq_getElem_cons hlt]
      simp only [List.map_cons, decS, nextK]
      cases ht : takeS (kindI a0.data.toList[i]) s with
      | error e => rfl
      | ok p =>
        obtain ⟨x, s'⟩ := p
        simp only
        have := take_size ht
        exact ih (i + 1) (out ++ [x]) s' k (by simp; omega) (by omega) (by omega) (by omega)
theorem star_up (k : Nat) (a0 : ByteArray) (st : Nat) (out : List S57) (i : Nat) (s : ByteArray) (hst : st < a0.size) (hz : a0.size ≤ 140737488351232) (hi : i ≤ a0.size) :
    codec_Decode.l0 (k + 6) a0 (st : Int) out (i : Int) s 0 =
      if i = a0.size ∨ i = st then (if s.toList = ([] : List UInt8) then some (out, 0) else codec_Decode.j4 (k + 2) a0 (st : Int) out ((st + 1 : Nat) : Int) s 0) else codec_Decode.j4 (k + 2) a0 (st : Int) out (i : Int) s 0 := by
  have ew : wrap64 ((st : Int) + 1) = ((st + 1 : Nat) : Int) := by rw [wrap64_id] <;> omega
  have ed : decide ((st : Int) ≥ 0) = true := decide_eq_true (by omega)
  simp only [codec_Decode.l0, codec_Decode.j1, codec_Decode.j2, codec_Decode.j3]
  by_cases h : i = a0.size
  · rw [if_pos (by omega), ed, if_pos (Or.inl h)]
    simp only [if_true, ew]
  · rw [if_neg (show ¬ ((i : Int) = (a0.size : Int)) by omega), if_neg (by decide)]
    by_cases h2 : i = st
    · subst h2
      rw [ed, if_pos (Or.inr rfl)]
      simp only [if_true, ew]
    · rw [if_neg (by omega), if_neg (by decide), if_neg (by omega)]
/-- What stands from a place on till the star, or the end. -/
def curS (hd tl : List UInt8) (i : Nat) : List Int := if i ≤ hd.length then (hd.drop i).map kindI else (tl.drop (i - hd.length - 1)).map kindI
theorem curS_end (hd tl : List UInt8) (i : Nat) (h : i = hd.length + 1 + tl.length ∨ i = hd.length) : curS hd tl i = [] := by
  unfold curS
  rcases h with h | h
  · rw [if_neg (by omega), List.drop_of_length_le (by omega)]; rfl
  · rw [if_pos (by omega), List.drop_of_length_le (by omega)]; rfl
theorem curS_in (hd tl : List UInt8) (i : Nat) (h : i < hd.length + 1 + tl.length) (hn : i ≠ hd.length) : curS hd tl i = kindI ((hd ++ 42 :: tl).getD i 0) :: curS hd tl (i + 1) := by
  unfold curS
  by_cases h1 : i < hd.length
  · rw [if_pos (by omega), if_pos (by omega), List.drop_eq_getElem_cons h1, List.map_cons, List.getD_eq_getElem?_getD, List.getElem?_append_left h1, List.getElem?_eq_getElem h1]
    rfl
  · obtain ⟨j, rfl⟩ : ∃ j, i = hd.length + (j + 1) := ⟨i - hd.length - 1, by omega⟩
    have h2 : j < tl.length := by omega
    rw [if_neg (by omega), if_neg (by omega), show hd.length + (j + 1) - hd.length - 1 = j by omega, show hd.length + (j + 1) + 1 - hd.length - 1 = j + 1 by omega, List.drop_eq_getElem_cons h2, List.map_cons, List.getD_eq_getElem?_getD, List.getElem?_append_right (by omega),
      show hd.length + (j + 1) - hd.length = j + 1 by omega, List.getElem?_cons_succ, List.getElem?_eq_getElem h2]
    rfl
theorem letter_in (hd tl : List UInt8) (hl : (hd ++ tl).all letB = true) (i : Nat) (h : i < hd.length + 1 + tl.length) (hn : i ≠ hd.length) : 1 ≤ kindI ((hd ++ 42 :: tl).getD i 0) := by
  rw [List.all_append, Bool.and_eq_true] at hl
  refine (letB_iff _).1 ?_
  rw [List.getD_eq_getElem?_getD]
  by_cases h1 : i < hd.length
  · rw [List.getElem?_append_left h1, List.getElem?_eq_getElem h1]
    exact List.all_eq_true.1 hl.1 _ (List.getElem_mem h1)
  · obtain ⟨j, rfl⟩ : ∃ j, i = hd.length + (j + 1) := ⟨i - hd.length - 1, by omega⟩
    have h2 : j < tl.length := by omega
    rw [List.getElem?_append_right (by omega), show hd.length + (j + 1) - hd.length = j + 1 by omega, List.getElem?_cons_succ, List.getElem?_eq_getElem h2]
    exact List.all_eq_true.1 hl.2 _ (List.getElem_mem h2)
theorem dec_star (a0 : ByteArray) (hd tl : List UInt8) (hL : a0.data.toList = hd ++ 42 :: tl) (hz : a0.size ≤ 140737488351232) (hl : (hd ++ tl).all letB = true) (ht : tl ≠ []) (n : Nat) : ∀ (i : Nat) (out : List S57) (s : ByteArray) (k : Nat), out.length + n = 1000 → i ≤ a0.size → s.size ≤ 1000000000000000 → 6 * n + 8 ≤ k →
    codec_Decode.l0 k a0 (hd.length : Int) out (i : Int) s 0 = some (decS (tl.map kindI) n (curS hd tl i) out s) := by
  have hsz : a0.size = hd.length + 1 + tl.length := by rw [← data_len, hL]; simp; omega
  have htl : 0 < tl.length := List.length_pos_iff.2 ht
  induction n with
  | zero =>
    intro i out s k ho hi hs hk
    obtain ⟨k, rfl⟩ : ∃ m, k = m + 6 := ⟨k - 6, by omega⟩
    rw [star_up k a0 hd.length out i s (by omega) hz hi]
    by_cases h : i = a0.size ∨ i = hd.length
    · rw [if_pos h, curS_end hd tl i (by omega)]
      have hb : curS hd tl (hd.length + 1) = tl.map kindI := by unfold curS; rw [if_neg (by omega), show hd.length + 1 - hd.length - 1 = 0 by omega, List.drop_zero]
      have hc := curS_in hd tl (hd.length + 1) (by omega) (by omega)
      rw [hb] at hc
      rw [hc]
      simp only [decS, nextK]
      by_cases g : s.toList = ([] : List UInt8)
      · rw [if_pos g, if_pos g]
      · rw [if_neg g, if_neg g, tail_is k a0 _ out (hd.length + 1) s _ (by omega) hz rfl (by rw [hL]; exact letter_in hd tl hl _ (by omega) (by omega)) (by omega) hs, if_pos (by omega)]
    · rw [if_neg h, tail_is k a0 _ out i s _ (by omega) hz rfl (by rw [hL]; exact letter_in hd tl hl _ (by omega) (by omega)) (by omega) hs, if_pos (by omega), curS_in hd tl i (by omega) (by omega)]
      rfl
  | succ n ih =>
    intro i out s k ho hi hs hk
    obtain ⟨k, rfl⟩ : ∃ m, k = m + 6 := ⟨k - 6, by omega⟩
    rw [star_up k a0 hd.length out i s (by omega) hz hi]
    by_cases h : i = a0.size ∨ i = hd.length
    · rw [if_pos h, curS_end hd tl i (by omega)]
      have hb : curS hd tl (hd.length + 1) = tl.map kindI := by unfold curS; rw [if_neg (by omega), show hd.length + 1 - hd.length - 1 = 0 by omega, List.drop_zero]
      have hc := curS_in hd tl (hd.length + 1) (by omega) (by omega)
      rw [hb] at hc
      simp only [decS]
      rw [show nextK (tl.map kindI) [] s out = (if s.toList = ([] : List UInt8) then .inl (out, 0) else .inr (kindI ((hd ++ 42 :: tl).getD (hd.length + 1) 0), curS hd tl (hd.length + 1 + 1))) by rw [hc]; rfl]
      by_cases g : s.toList = ([] : List UInt8)
      · rw [if_pos g, if_pos g]
      · rw [if_neg g, if_neg g, tail_is k a0 _ out (hd.length + 1) s _ (by omega) hz rfl (by rw [hL]; exact letter_in hd tl hl _ (by omega) (by omega)) (by omega) hs, if_neg (by omega), hL]
        simp only
        cases hts : takeS (kindI ((hd ++ 42 :: tl).getD (hd.length + 1) 0)) s with
        | error e => rfl
        | ok p =>
          obtain ⟨x, s'⟩ := p
          simp only
          have := take_size hts
          exact ih (hd.length + 1 + 1) (out ++ [x]) s' k (by simp; omega) (by omega) (by omega) (by omega)
    · rw [if_neg h, tail_is k a0 _ out i s _ (by omega) hz rfl (by rw [hL]; exact letter_in hd tl hl _ (by omega) (by omega)) (by omega) hs, if_neg (by omega), curS_in hd tl i (by omega) (by omega), hL]
      simp only [decS, nextK]
      cases hts : takeS (kindI ((hd ++ 42 :: tl).getD i 0)) s with
      | error e => rfl
      | ok p =>
        obtain ⟨x, s'⟩ := p
        simp only
        have := take_size hts
        exact ih (i + 1) (out ++ [x]) s' k (by simp; omega) (by omega) (by omega) (by omega)
/-- The program's Decode, at every shape and text. -/
theorem decode_is (a0 s : ByteArray) (hz : a0.size ≤ 140737488351232) (hs : s.size ≤ 1000000000000000) (k : Nat) (hk : 6008 ≤ k) : codec_Decode.f k a0 s = some (decodeS a0.data.toList s) := by
  unfold codec_Decode.f decodeS
  rw [right_is a0 hz]
  simp only [Option.bind_some]
  have ei : strings_IndexByte.f a0 42 = some (Lib.indexByte a0.data.toList 42) := rfl
  by_cases h : (42 : UInt8) ∈ a0.data.toList
  · obtain ⟨hd, tl, h1, h2⟩ := cut_at _ _ h
    rw [ei, h1, parse_star hd tl h2, idx_some hd tl 42 h2]
    by_cases g : ((hd ++ tl).all letB && !tl.isEmpty) = true
    · rw [if_pos g]
      rw [Bool.and_eq_true] at g
      have gt : tl ≠ [] := by rintro rfl; simp at g
      have := dec_star a0 hd tl h1 hz g.1 gt 1000 0 [] s k (by simp) (by omega) hs (by omega)
      rw [show curS hd tl 0 = hd.map kindI by simp [curS]] at this
      exact this
    · rw [if_neg g]
      rfl
  · rw [ei, parse_plain _ h, idx_none _ _ h]
    by_cases g : a0.data.toList.all letB = true
    · rw [if_pos g]
      have := dec_plain a0 hz g 1000 0 [] s k (by simp) (by omega) hs (by omega)
      rw [List.drop_zero] at this
      exact this
    · rw [if_neg g]
      rfl
/-- A number as so many bytes. -/
def beI (v : Int) : Nat → List Int
  | 0 => []
  | n + 1 => (v / 256 ^ n) % 256 :: beI v n
theorem beI_length (v : Int) (n : Nat) : (beI v n).length = n := by
  induction n with
  | zero => rfl
  | succ n ih => simp [beI, ih]
/-- An item's bytes, or the error. -/
def encOne (x : S57) : Except Int (List Int) :=
  if x.f0 = 4 then (if x.f1 = 0 then (if 100000 < x.f2.size then .error 3 else .ok (beI (x.f2.size : Int) 4 ++ bytesOf x.f2)) else .error 1)
  else if 1 ≤ x.f0 ∧ x.f0 ≤ 3 then (if x.f2.toList = ([] : List UInt8) then (if 8 ≤ widthI x.f0 ∨ x.f1 / 256 ^ widthI x.f0 = 0 then .ok (beI x.f1 (widthI x.f0)) else .error 1) else .error 1)
  else .error 1
def encAll : List S57 → Except Int (List Int)
  | [] => .ok []
  | x :: xs => match encOne x with
    | .error e => .error e
    | .ok l => match encAll xs with
      | .error e => .error e
      | .ok m => .ok (l ++ m)
def encS (l : List S57) : ByteArray × Int := if 1000 < l.length then (⟨#[]⟩, 3) else match encAll l with
  | .error e => (⟨#[]⟩, e)
  | .ok m => (strOfNums m, 0)
theorem widthI_le (k : Int) : widthI k ≤ 8 := by
  unfold widthI
  by_cases h1 : k = 1
  · rw [if_pos h1]; decide
  · rw [if_neg h1]
    by_cases h2 : k = 2
    · rw [if_pos h2]; decide
    · rw [if_neg h2]
      by_cases h3 : k = 3
      · rw [if_pos h3]; decide
      · rw [if_neg h3]; decide
theorem encOne_len {x : S57} {l : List Int} (h : encOne x = .ok l) : l.length ≤ 100004 := by
  unfold encOne at h
  split at h
  · split at h
    · split at h
      · cases h
      · cases h
        rw [List.length_append, beI_length, bytesOf_length]; omega
    · cases h
  · split at h
    · split at h
      · split at h
        · cases h
          rw [beI_length]
          have := widthI_le x.f0
          omega
        · cases h
      · cases h
    · cases h
theorem put_is (v : Int) (m : Nat) : ∀ (k : Nat) (acc : List Int), m ≤ 8 → acc.length + m ≤ 1000000008 → codec_put.l0 (k + m + 1) acc v (8 * (m : Int) - 8) = some (acc ++ beI v m) := by
  induction m with
  | zero =>
    intro k acc _ _
    simp only [codec_put.l0]
    rw [if_neg (by omega)]
    simp [beI]
  | succ m ih =>
    intro k acc hm ha
    rw [show k + (m + 1) + 1 = (k + m + 1) + 1 by omega, codec_put.l0, if_pos (by omega), if_pos (by omega), if_pos (by omega)]
    have e1 : wrap64 (8 * ((m + 1 : Nat) : Int) - 8 - 8) = 8 * (m : Int) - 8 := by rw [wrap64_id] <;> omega
    have e2 : shr .u64 v (8 * ((m + 1 : Nat) : Int) - 8) = v / 256 ^ m := by
      unfold shr
      have : (8 * ((m + 1 : Nat) : Int) - 8).toNat = 8 * m := by omega
      rw [this, Nat.min_eq_left (by show 8 * m ≤ 64; omega), Int.pow_mul]
      rfl
    rw [e1, e2, ih k _ (by omega) (by simp; omega)]
    simp [beI]
theorem put_f (v : Int) (m : Nat) (k : Nat) (acc : List Int) (h1 : 1 ≤ m) (hm : m ≤ 8) (ha : acc.length ≤ 1000000000) (hk : 10 ≤ k) : codec_put.f k acc v (m : Int) = some (acc ++ beI v m) := by
  unfold codec_put.f
  rw [wrap64_id (n := (m : Int) - 1) (by omega) (by omega), wrap64_id (n := 8 * ((m : Int) - 1)) (by omega) (by omega), show 8 * ((m : Int) - 1) = 8 * (m : Int) - 8 by omega]
  have := put_is v m (k - m - 1) acc hm (by omega)
  rwa [show k - m - 1 + m + 1 = k by omega] at this
theorem rdT_nat (l : List S57) (i : Nat) (h : i < l.length) : rd_T57 l (i : Int) = l[i] := by
  unfold rd_T57
  rw [show ((i : Int)).toNat = i from rfl, List.getD_eq_getElem?_getD, List.getElem?_eq_getElem h]
  rfl
/-- Numbers of their kinds. -/
def WfI (x : S57) : Prop := 0 ≤ x.f1 ∧ x.f1 < 18446744073709551616 ∧ -9223372036854775808 ≤ x.f0 ∧ x.f0 ≤ 9223372036854775807 ∧ x.f2.size ≤ 140737488351232
theorem enc_loop (l : List S57) (hl : l.length ≤ 1000) (hw : ∀ x ∈ l, WfI x) (d : Nat) : ∀ (i : Nat) (acc : List Int) (k : Nat), i + d = l.length → acc.length ≤ i * 100004 → d + 12 ≤ k →
    codec_Encode.l0 k acc l (l.length : Int) (i : Int) = some (match encAll (l.drop i) with
      | .error e => (⟨#[]⟩, e)
      | .ok m => (strOfNums (acc ++ m), 0)) := by
  induction d with
  | zero =>
    intro i acc k hi ha hk
    obtain ⟨k, rfl⟩ : ∃ m, k = m + 1 := ⟨k - 1, by omega⟩
    simp only [codec_Encode.l0]
    rw [if_neg (by omega), List.drop_of_length_le (by omega)]
    simp [encAll]
  | succ d ih =>
    intro i acc k hi ha hk
    obtain ⟨k, rfl⟩ : ∃ m, k = m + 1 := ⟨k - 1, by omega⟩
    have hlt : i < l.length := by omega
    have ew : wrap64 ((i : Int) + 1) = ((i + 1 : Nat) : Int) := by rw [wrap64_id] <;> omega
    rw [List.drop_eq_getElem_cons hlt]
    simp only [codec_Encode.l0]
    rw [if_pos (by omega), if_pos (by omega), if_pos (by omega), rdT_nat l i hlt, ew]
    have hx := hw _ (List.getElem_mem hlt)
    generalize l[i] = x at hx ⊢
    have next : ∀ b : List Int, b.length ≤ 100004 → codec_Encode.l0 k (acc ++ b) l (l.length : Int) ((i + 1 : Nat) : Int) = some (match (match encAll (l.drop (i + 1)) with
        | .error e => (.error e : Except Int (List Int))
        | .ok m => .ok (b ++ m)) with
      | .error e => (⟨#[]⟩, e)
      | .ok m => (strOfNums (acc ++ m), 0)) := by
      intro b hb
      rw [ih (i + 1) (acc ++ b) k (by omega) (by simp; omega) (by omega)]
      cases encAll (l.drop (i + 1)) <;> simp
    simp only [encAll]
    unfold encOne
    by_cases h4 : x.f0 = 4
    · rw [if_neg (by omega), if_neg (by omega), if_pos h4, if_pos h4]
      by_cases h1 : x.f1 = 0
      · rw [if_pos h1, if_pos h1]
        by_cases hs : 100000 < x.f2.size
        · rw [if_pos (by omega), if_pos hs]
        · rw [if_neg (by omega), if_neg hs]
          have eu : IntKind.u64.wrap (x.f2.size : Int) = (x.f2.size : Int) := by show (x.f2.size : Int) % 18446744073709551616 = _; omega
          have p4 := put_f (x.f2.size : Int) 4 k acc (by decide) (by decide) (by omega) (by omega)
          rw [show ((4 : Nat) : Int) = 4 from rfl] at p4
          rw [eu, p4]
          simp only [Option.bind_some]
          rw [if_pos (by rw [List.length_append, beI_length]; omega), List.append_assoc]
          exact next _ (by rw [List.length_append, beI_length, bytesOf_length]; omega)
      · rw [if_neg h1, if_neg h1]
    · by_cases hr : 1 ≤ x.f0 ∧ x.f0 ≤ 3
      · rw [if_neg (by omega), if_neg (by omega), if_neg h4, if_neg h4, if_pos (by omega), if_pos (by omega), if_pos hr]
        have e : rd sizTabI x.f0 = ((widthI x.f0 : Nat) : Int) ∧ 1 ≤ widthI x.f0 ∧ widthI x.f0 ≤ 8 := by
          have : x.f0 = 1 ∨ x.f0 = 2 ∨ x.f0 = 3 := by omega
          rcases this with h | h | h <;> rw [h] <;> exact ⟨rfl, by decide, by decide⟩
        obtain ⟨e1, e2, e3⟩ := e
        rw [e1]
        by_cases h2 : x.f2.toList = ([] : List UInt8)
        · rw [if_pos h2, if_pos h2]
          have ep : ∀ k' : Nat, codec_put.f k acc x.f1 ((widthI x.f0 : Nat) : Int) = some (acc ++ beI x.f1 (widthI x.f0)) := fun _ => put_f _ _ k acc e2 e3 (by omega) (by omega)
          by_cases h8 : widthI x.f0 = 8
          · rw [if_neg (by omega), if_pos (.inl (by omega)), ep 0]
            simp only [Option.bind_some]
            exact next _ (by rw [beI_length]; omega)
          · have es : shr .u64 x.f1 (wrap64 (8 * ((widthI x.f0 : Nat) : Int))) = x.f1 / 256 ^ widthI x.f0 := by
              rw [wrap64_id (by omega) (by omega)]
              unfold shr
              have : (8 * ((widthI x.f0 : Nat) : Int)).toNat = 8 * widthI x.f0 := by omega
              rw [this, Nat.min_eq_left (by show 8 * widthI x.f0 ≤ 64; omega), Int.pow_mul]
              rfl
            have hq : 0 ≤ x.f1 / 256 ^ widthI x.f0 := Int.ediv_nonneg hx.1 (Int.pow_nonneg (by decide))
            rw [if_pos (by omega), if_pos (by rw [wrap64_id] <;> omega), es]
            by_cases h0 : x.f1 / 256 ^ widthI x.f0 = 0
            · rw [if_neg (by omega), if_pos (.inr h0), ep 0]
              simp only [Option.bind_some]
              exact next _ (by rw [beI_length]; omega)
            · rw [if_pos (by omega), if_neg (by rintro (h | h) <;> omega)]
        · rw [if_neg h2, if_neg h2]
      · by_cases hlo : x.f0 < 1
        · rw [if_pos hlo, if_neg h4, if_neg hr]
        · rw [if_neg hlo, if_pos (by omega), if_neg h4, if_neg hr]
/-- The program's Encode, at every list of items. -/
theorem encode_is (l : List S57) (hw : ∀ x ∈ l, WfI x) (k : Nat) (hk : 1012 ≤ k) : codec_Encode.f k l = some (encS l) := by
  unfold codec_Encode.f encS
  by_cases h : 1000 < l.length
  · rw [if_pos (by omega), if_pos h]
  · rw [if_neg (by omega), if_neg h]
    have := enc_loop l (by omega) hw l.length 0 [] k (by omega) (by simp) (by omega)
    rw [List.drop_zero] at this
    exact this
theorem beI_snoc (n : Nat) : ∀ v : Int, beI v (n + 1) = beI (v / 256) n ++ [v % 256] := by
  induction n with
  | zero => intro v; simp [beI]
  | succ n ih =>
    intro v
    rw [beI, ih v]
    show _ = ((v / 256) / 256 ^ n) % 256 :: beI (v / 256) n ++ [v % 256]
    rw [Int.pow_succ, Int.mul_comm, ← Int.ediv_ediv_of_nonneg (by decide)]
    rfl
/-- The bytes of some numbers. -/
def toU (l : List Int) : List UInt8 := l.map fun n => UInt8.ofNat n.toNat
theorem toU_append (a b : List Int) : toU (a ++ b) = toU a ++ toU b := by simp [toU]
theorem toU_length (a : List Int) : (toU a).length = a.length := by simp [toU]
theorem toU_bytes (s : ByteArray) : toU (bytesOf s) = s.data.toList := by
  unfold toU bytesOf
  rw [List.map_map]
  conv => rhs; rw [← List.map_id s.data.toList]
  apply List.map_congr_left
  intro c _
  simp
theorem son_data (l : List Int) : (strOfNums l).data.toList = toU l := strOfNums_data l
theorem ba_nil {s : ByteArray} (h : s.toList = ([] : List UInt8)) : s = ⟨#[]⟩ := ba_eq (by rw [← toList_eq, h])
theorem beI_of (A : List UInt8) : toU (beI ((beNat A : Nat) : Int) A.length) = A := by
  have key : ∀ (n : Nat) (A : List UInt8), A.length = n → toU (beI ((beNat A : Nat) : Int) n) = A := by
    intro n
    induction n with
    | zero => intro A h; rw [List.length_eq_zero_iff.1 h]; rfl
    | succ n ih =>
      intro A h
      obtain ⟨B, c, rfl⟩ : ∃ B c, A = B ++ [c] := ⟨A.dropLast, A.getLast (by intro e; rw [e] at h; simp at h), (List.dropLast_concat_getLast _).symm⟩
      have hB : B.length = n := by simpa using h
      have hc := c.toNat_lt
      rw [beNat_snoc, beI_snoc, toU_append]
      have e1 : ((beNat B * 256 + c.toNat : Nat) : Int) / 256 = ((beNat B : Nat) : Int) := by omega
      have e2 : ((beNat B * 256 + c.toNat : Nat) : Int) % 256 = ((c.toNat : Nat) : Int) := by omega
      rw [e1, e2, ih B hB]
      congr 1
      simp [toU]
  exact key A.length A rfl
/-- An item that is read is written as it stood. -/
theorem enc_take {k : Int} (h1 : 1 ≤ k) (h4 : k ≤ 4) {s : ByteArray} (hz : s.size ≤ 1000000000000000) {x : S57} {s' : ByteArray} (h : takeS k s = .ok (x, s')) :
    ∃ l, encOne x = .ok l ∧ s.data.toList = toU l ++ s'.data.toList ∧ WfI x ∧ x.f0 = k ∧ 0 < l.length := by
  have hr := take_size h
  unfold takeS at h
  split at h
  · rename_i hk
    split at h
    · cases h
    · rename_i g1
      split at h
      · cases h
      · rename_i g2
        split at h
        · cases h
        · rename_i g3
          cases h
          obtain ⟨v, hv⟩ : ∃ v, beNat (s.data.toList.take 4) = v := ⟨_, rfl⟩
          rw [hv] at g2 g3 ⊢
          have hs2 : (s.extract 4 (4 + v)).size = v := by rw [ByteArray.size_extract]; omega
          refine ⟨beI ((v : Nat) : Int) 4 ++ bytesOf (s.extract 4 (4 + v)), ?_, ?_, ⟨?_, ?_, ?_, ?_, ?_⟩, hk.symm, by rw [List.length_append, beI_length]; omega⟩
          · unfold encOne
            rw [if_pos rfl, if_pos rfl, hs2, if_neg (by omega)]
          · rw [toU_append, toU_bytes, ← hv]
            have := beI_of (s.data.toList.take 4)
            rw [List.length_take, data_len, Nat.min_eq_left (by omega)] at this
            rw [this, hv, ext_list, ext_list, show 4 + v - 4 = v by omega, List.append_assoc]
            conv => lhs; rw [← List.take_append_drop 4 s.data.toList]
            congr 1
            conv => lhs; rw [← List.take_append_drop v (s.data.toList.drop 4)]
            congr 1
            rw [List.drop_drop, List.take_of_length_le]
            rw [List.length_drop, data_len]
            exact Nat.le_refl _
          · exact Int.le_refl _
          · show (0 : Int) < 18446744073709551616
            decide
          · show (-9223372036854775808 : Int) ≤ 4
            decide
          · show (4 : Int) ≤ 9223372036854775807
            decide
          · rw [hs2]; omega
  · rename_i hk
    split at h
    · cases h
    · rename_i g1
      cases h
      have hw : (widthI k = 1 ∨ widthI k = 4 ∨ widthI k = 8) ∧ (1 ≤ k ∧ k ≤ 3) := by
        have : k = 1 ∨ k = 2 ∨ k = 3 := by omega
        rcases this with h | h | h <;> subst h <;> decide
      have hb := beNat_lt (s.data.toList.take (widthI k))
      rw [List.length_take, data_len, Nat.min_eq_left (by omega)] at hb
      obtain ⟨v, hv⟩ : ∃ v, beNat (s.data.toList.take (widthI k)) = v := ⟨_, rfl⟩
      rw [hv] at hb ⊢
      refine ⟨beI ((v : Nat) : Int) (widthI k), ?_, ?_, ⟨?_, ?_, ?_, ?_, ?_⟩, rfl, by rw [beI_length]; omega⟩
      · unfold encOne
        rw [if_neg hk, if_pos hw.2, if_pos (by rw [toList_eq])]
        rcases hw.1 with e | e | e <;> rw [e] at hb ⊢
        · have : ((v : Nat) : Int) / 256 ^ 1 = 0 := by show ((v : Nat) : Int) / 256 = 0; omega
          rw [if_pos (.inr this)]
        · have : ((v : Nat) : Int) / 256 ^ 4 = 0 := by show ((v : Nat) : Int) / 4294967296 = 0; omega
          rw [if_pos (.inr this)]
        · rw [if_pos (.inl (by decide))]
      · rw [← hv]
        have := beI_of (s.data.toList.take (widthI k))
        rw [List.length_take, data_len, Nat.min_eq_left (by omega)] at this
        rw [this, ext_list]
        conv => lhs; rw [← List.take_append_drop (widthI k) s.data.toList]
        congr 1
        rw [List.take_of_length_le]
        rw [List.length_drop, data_len]
        exact Nat.le_refl _
      · show (0 : Int) ≤ (v : Int)
        omega
      · show ((v : Nat) : Int) < 18446744073709551616
        rcases hw.1 with e | e | e <;> rw [e] at hb <;> omega
      · show -9223372036854775808 ≤ k
        omega
      · show k ≤ 9223372036854775807
        omega
      · show (⟨#[]⟩ : ByteArray).size ≤ _
        decide
/-- What was read is written as it stood; its kinds are the shape's. -/
theorem enc_dec (b : List Int) (kb : ∀ x ∈ b, 1 ≤ x ∧ x ≤ 4) (n : Nat) : ∀ (cur : List Int) (out : List S57) (s : ByteArray) (l : List S57), (∀ x ∈ cur, 1 ≤ x ∧ x ≤ 4) → s.size ≤ 1000000000000000 → decS b n cur out s = (l, 0) →
    ∃ m e, l = out ++ m ∧ encAll m = .ok e ∧ s.data.toList = toU e ∧ (∀ x ∈ m, WfI x) ∧ m.length ≤ n ∧ ∃ j, m.map (·.f0) = cur ++ (List.replicate j b).flatten := by
  induction n with
  | zero =>
    intro cur out s l kc hs h
    cases cur with
    | nil =>
      cases b with
      | nil =>
        simp only [decS, nextK] at h
        by_cases g : s.toList = ([] : List UInt8)
        · rw [if_pos g] at h
          cases h
          exact ⟨[], [], by simp, rfl, by rw [← toList_eq, g]; rfl, by simp, by simp, 0, by simp⟩
        · rw [if_neg g] at h
          cases h
      | cons k ks =>
        simp only [decS, nextK] at h
        by_cases g : s.toList = ([] : List UInt8)
        · rw [if_pos g] at h
          cases h
          exact ⟨[], [], by simp, rfl, by rw [← toList_eq, g]; rfl, by simp, by simp, 0, by simp⟩
        · rw [if_neg g] at h
          cases h
    | cons k ks => cases h
  | succ n ih =>
    intro cur out s l kc hs h
    have arm : ∀ (k : Int) (ks : List Int) (hk : 1 ≤ k ∧ k ≤ 4) (hks : ∀ x ∈ ks, 1 ≤ x ∧ x ≤ 4), (match takeS k s with
        | Except.error e => (([] : List S57), e)
        | Except.ok (x, s') => decS b n ks (out ++ [x]) s') = (l, 0) →
        ∃ m e, l = out ++ m ∧ encAll m = .ok e ∧ s.data.toList = toU e ∧ (∀ x ∈ m, WfI x) ∧ m.length ≤ n + 1 ∧ ∃ j, m.map (·.f0) = (k :: ks) ++ (List.replicate j b).flatten := by
      intro k ks hk hks h
      cases ht : takeS k s with
      | error e =>
        rw [ht] at h
        simp only [Prod.mk.injEq] at h
        exfalso
        have h0 := h.2
        unfold takeS at ht
        split at ht
        · split at ht
          · cases ht; exact absurd h0 (by decide)
          · split at ht
            · cases ht; exact absurd h0 (by decide)
            · split at ht
              · cases ht; exact absurd h0 (by decide)
              · cases ht
        · split at ht
          · cases ht; exact absurd h0 (by decide)
          · cases ht
      | ok p =>
        obtain ⟨x, s'⟩ := p
        rw [ht] at h
        simp only at h
        have hz := take_size ht
        obtain ⟨a, ha, hsa, hw, hf, _⟩ := enc_take hk.1 hk.2 hs ht
        obtain ⟨m, e, h1, h2, h3, h4, h5, j, h6⟩ := ih ks (out ++ [x]) s' l hks (by omega) h
        refine ⟨x :: m, a ++ e, by rw [h1]; simp, ?_, by rw [toU_append, hsa, h3], ?_, by simp; omega, j, by simp [hf, h6]⟩
        · simp only [encAll, ha, h2]
        · intro y hy
          rcases List.mem_cons.1 hy with rfl | hy
          · exact hw
          · exact h4 y hy
    cases cur with
    | nil =>
      cases hb : b with
      | nil =>
        rw [hb] at h
        simp only [decS, nextK] at h
        by_cases g : s.toList = ([] : List UInt8)
        · rw [if_pos g] at h
          cases h
          exact ⟨[], [], by simp, rfl, by rw [← toList_eq, g]; rfl, by simp, by simp, 0, by simp⟩
        · rw [if_neg g] at h
          cases h
      | cons k ks =>
        have hn : nextK b [] s out = if s.toList = ([] : List UInt8) then .inl (out, 0) else .inr (k, ks) := by rw [hb]; rfl
        simp only [decS, hn] at h
        by_cases g : s.toList = ([] : List UInt8)
        · rw [if_pos g] at h
          cases h
          exact ⟨[], [], by simp, rfl, by rw [← toList_eq, g]; rfl, by simp, by simp, 0, by simp⟩
        · rw [if_neg g] at h
          obtain ⟨m, e, h1, h2, h3, h4, h5, j, h6⟩ := arm k ks (kb k (by rw [hb]; simp)) (fun x hx => kb x (by rw [hb]; simp [hx])) h
          exact ⟨m, e, h1, h2, h3, h4, h5, j + 1, by rw [h6, ← hb, List.replicate_succ]; simp⟩
    | cons k ks => exact arm k ks (kc k (by simp)) (fun x hx => kc x (by simp [hx])) h
theorem son_size (m : List Int) : (strOfNums m).size = m.length := by rw [← data_len, son_data, toU_length]
theorem kindsOkK {L : List UInt8} (h : L.all letB = true) : ∀ x ∈ L.map kindI, 1 ≤ x ∧ x ≤ 4 := by
  intro x hx
  obtain ⟨c, hc, rfl⟩ := List.mem_map.1 hx
  exact ⟨(letB_iff c).1 (List.all_eq_true.1 h c hc), (kindI_range c).2⟩
theorem parse_kindsK {L : List UInt8} {a b : List Int} (h : parseS L = some (a, b)) : (∀ x ∈ a, 1 ≤ x ∧ x ≤ 4) ∧ (∀ x ∈ b, 1 ≤ x ∧ x ≤ 4) := by
  unfold parseS at h
  split at h
  · split at h
    · rename_i hc
      cases h
      rw [Bool.and_eq_true, List.all_append, Bool.and_eq_true] at hc
      exact ⟨kindsOkK hc.1.1, kindsOkK hc.1.2⟩
    · cases h
  · split at h
    · rename_i hc
      cases h
      exact ⟨kindsOkK hc, by simp⟩
    · cases h
theorem encS_of {l : List S57} {m : List Int} (h : encAll l = .ok m) (hl : l.length ≤ 1000) : encS l = (strOfNums m, 0) := by
  unfold encS
  rw [if_neg (by omega), h]
abbrev SI := S57
theorem wrapU64 {a : Int} (h0 : 0 ≤ a) (h1 : a < 18446744073709551616) : IntKind.u64.wrap a = a := by
  show a % 18446744073709551616 = a
  omega
theorem encLg (v : Int) : encOne (⟨3, v, ⟨#[]⟩⟩ : SI) = .ok (beI v 8) := by
  unfold encOne
  dsimp only
  rw [if_neg (by decide), if_pos (by decide), if_pos (by rw [toList_eq]), if_pos (.inl (by decide))]
  rfl
theorem encBt (v : Int) (h0 : 0 ≤ v) (h1 : v < 256) : encOne (⟨1, v, ⟨#[]⟩⟩ : SI) = .ok (beI v 1) := by
  unfold encOne
  dsimp only
  rw [if_neg (by decide), if_pos (by decide), if_pos (by rw [toList_eq]), if_pos (.inr (by show v / 256 ^ 1 = 0; omega))]
  rfl
theorem encTx (s : ByteArray) (h : s.size ≤ 100000) : encOne (⟨4, 0, s⟩ : SI) = .ok (beI (s.size : Int) 4 ++ bytesOf s) := by
  unfold encOne
  dsimp only
  rw [if_pos rfl, if_pos rfl, if_neg (by omega)]
theorem bytes_len (s : ByteArray) : (bytesOf s).length = s.size := bytesOf_length s
theorem wfLg {v : Int} (h0 : 0 ≤ v) (h1 : v < 18446744073709551616) : WfI (⟨3, v, ⟨#[]⟩⟩ : SI) := ⟨h0, h1, by show (-9223372036854775808 : Int) ≤ 3; decide, by show (3 : Int) ≤ 9223372036854775807; decide, by show (0 : Nat) ≤ _; omega⟩
theorem wfBt {v : Int} (h0 : 0 ≤ v) (h1 : v < 18446744073709551616) : WfI (⟨1, v, ⟨#[]⟩⟩ : SI) := ⟨h0, h1, by show (-9223372036854775808 : Int) ≤ 1; decide, by show (1 : Int) ≤ 9223372036854775807; decide, by show (0 : Nat) ≤ _; omega⟩
theorem wfTx {s : ByteArray} (h : s.size ≤ 140737488351232) : WfI (⟨4, 0, s⟩ : SI) := ⟨by show (0 : Int) ≤ 0; decide, by show (0 : Int) < 18446744073709551616; decide, by show (-9223372036854775808 : Int) ≤ 4; decide, by show (4 : Int) ≤ 9223372036854775807; decide, h⟩
theorem itemN {x : SI} {a : List Int} (hx : encOne x = .ok a) (h4 : x.f0 ≠ 4) : x.f2 = ⟨#[]⟩ ∧ (x.f0 = 1 → x.f1 / 256 = 0) := by
  unfold encOne at hx
  rw [if_neg h4] at hx
  split at hx
  · split at hx
    · rename_i g1 g2
      split at hx
      · rename_i g3
        refine ⟨ba_nil g2, fun e1 => ?_⟩
        rcases g3 with g3 | g3
        · rw [e1] at g3; exact absurd g3 (by decide)
        · rw [e1] at g3; simpa [widthI] using g3
      · cases hx
    · cases hx
  · cases hx
theorem item3 {x : SI} {a : List Int} (hx : encOne x = .ok a) (hw : WfI x) (h : x.f0 = 3) : ∃ v, x = ⟨3, v, ⟨#[]⟩⟩ ∧ 0 ≤ v ∧ v < 18446744073709551616 := by
  obtain ⟨h2, -⟩ := itemN hx (by rw [h]; decide)
  obtain ⟨x0, v, x2⟩ := x
  dsimp only at h h2
  subst h h2
  exact ⟨v, rfl, hw.1, hw.2.1⟩
theorem item1 {x : SI} {a : List Int} (hx : encOne x = .ok a) (hw : WfI x) (h : x.f0 = 1) : ∃ v, x = ⟨1, v, ⟨#[]⟩⟩ ∧ 0 ≤ v ∧ v < 256 := by
  obtain ⟨h2, h3⟩ := itemN hx (by rw [h]; decide)
  have h3 := h3 h
  have h0 := hw.1
  obtain ⟨x0, v, x2⟩ := x
  dsimp only at h h2 h3 h0
  subst h h2
  exact ⟨v, rfl, h0, by omega⟩
theorem item4 {x : SI} {a : List Int} (hx : encOne x = .ok a) (h : x.f0 = 4) : ∃ t : ByteArray, x = ⟨4, 0, t⟩ ∧ t.size ≤ 100000 := by
  unfold encOne at hx
  rw [if_pos h] at hx
  split at hx
  · rename_i h1
    split at hx
    · cases hx
    · rename_i h2
      obtain ⟨x0, v, t⟩ := x
      dsimp only at h h1 h2
      subst h h1
      exact ⟨t, rfl, by omega⟩
  · cases hx
theorem encAll_each : ∀ (l : List SI) (e : List Int), encAll l = .ok e → ∀ x ∈ l, ∃ a, encOne x = .ok a := by
  intro l
  induction l with
  | nil => intro e _ x hx; cases hx
  | cons y ys ih =>
    intro e he x hx
    simp only [encAll] at he
    cases h1 : encOne y with
    | error e1 => rw [h1] at he; cases he
    | ok a =>
      rw [h1] at he
      cases h2 : encAll ys with
      | error e2 => rw [h2] at he; cases he
      | ok b =>
        rcases List.mem_cons.1 hx with rfl | hx
        · exact ⟨a, h1⟩
        · exact ih b h2 x hx
/-- What a shape without a star reads. -/
theorem dec_fixed {L : List UInt8} {ks : List Int} (hp : parseS L = some (ks, [])) {s : ByteArray} {l : List SI} (hs : s.size ≤ 1000000000000000) (h : decodeS L s = (l, 0)) :
    ∃ e, encAll l = .ok e ∧ s = strOfNums e ∧ (∀ x ∈ l, WfI x) ∧ l.map (·.f0) = ks ∧ l.length ≤ 1000 := by
  have hk := (parse_kindsK hp).1
  unfold decodeS at h
  rw [hp] at h
  obtain ⟨m, e, hm, h1, h2, h3, h4, j, h5⟩ := enc_dec [] (by simp) 1000 ks [] s l hk hs h
  rw [List.nil_append] at hm
  subst hm
  refine ⟨e, h1, ba_eq (by rw [h2, son_data]), h3, ?_, h4⟩
  rw [h5]
  have : (List.replicate j ([] : List Int)).flatten = [] := by simp
  rw [this, List.append_nil]
/-- A letter of a word. -/
def letW (c : UInt8) : Bool := (decide (97 ≤ c.toNat) && decide (c.toNat ≤ 122)) || (decide (48 ≤ c.toNat) && decide (c.toNat ≤ 57))
theorem notWord_let (c : UInt8) : notWordR c.toNat = !letW c := rfl
theorem get_bang (s : ByteArray) (i : Nat) (h : i < s.size) : s.get! i = s[i] := by
  show s.data[i]! = _
  rw [getElem!_pos s.data i (by exact h)]
  rfl
theorem decode_high (s : ByteArray) (i : Nat) (h : i < s.size) (hc : 128 ≤ (s[i]).toNat) : 128 ≤ (Utf8.decode s i).1 := by
  have e : (s.get! (i + 0)).toNat = (s[i]).toNat := by rw [Nat.add_zero, get_bang s i h]
  unfold Utf8.decode
  simp only [e, Utf8.runeError]
  rw [if_neg (by omega)]
  repeat' split
  all_goals (try (show 128 ≤ 65533; decide))
  all_goals (simp only [Bool.and_eq_true, decide_eq_true_eq, ge_iff_le] at *; omega)
theorem idxW (s : ByteArray) : ∀ (f pos : Nat), s.size ≤ pos + f → (decide (Lib.idxFuncFrom notWordR true s f pos < 0)) = (s.data.toList.drop pos).all letW := by
  intro f
  induction f with
  | zero =>
    intro pos h
    rw [List.drop_of_length_le (by rw [data_len]; omega)]
    rfl
  | succ f ih =>
    intro pos h
    by_cases hp : pos < s.size
    · have hl : pos < s.data.toList.length := by rw [data_len]; exact hp
      rw [List.drop_eq_getElem_cons hl, List.all_cons]
      unfold Lib.idxFuncFrom
      rw [if_pos hp]
      have hg : s.data.toList[pos] = s[pos] := rfl
      rw [hg]
      by_cases hc : (s[pos]).toNat < 128
      · rw [decode_ascii s pos hp hc]
        dsimp only
        rw [notWord_let]
        cases hw : letW s[pos]
        · rw [if_pos (show (!false) = true from rfl), Bool.false_and]
          exact decide_eq_false (by omega)
        · rw [if_neg (show ¬ (!true) = true by decide), ih (pos + 1) (by omega), Bool.true_and]
      · have hd := decode_high s pos hp (by omega)
        have hn : notWordR (Utf8.decode s pos).1 = true := by
          unfold notWordR
          generalize (Utf8.decode s pos).1 = x at *
          simp
          omega
        have hw : letW s[pos] = false := by
          unfold letW
          generalize (s[pos]).toNat = x at *
          simp
          omega
        rw [if_pos hn, hw, Bool.false_and]
        exact decide_eq_false (by omega)
    · rw [Lib.idxFuncFrom_end _ _ _ _ _ hp, List.drop_of_length_le (by rw [data_len]; omega)]
      rfl
/-- Is a text a word? -/
def wordB (s : ByteArray) : Bool := decide (s.size ≠ 0) && decide (s.size ≤ 20) && s.data.toList.all letW
theorem word_is14 (s : ByteArray) : command_Word.f s = some (wordB s) := by
  unfold command_Word.f wordB Lib.idxFunc
  rw [idxW s s.size 0 (by omega), List.drop_zero]
def namedB (s : ByteArray) (m : Bool) : Bool := if m = true then wordB s else (s.toList == ([] : List UInt8))
theorem named_is (s : ByteArray) (m : Bool) : command_named.f s m = some (namedB s m) := by
  unfold command_named.f namedB
  cases m
  · rfl
  · rw [if_pos rfl, if_pos rfl, word_is14]; rfl
theorem named_le {s : ByteArray} {m : Bool} (h : namedB s m = true) : s.size ≤ 20 := by
  unfold namedB at h
  cases m
  · simp only [Bool.false_eq_true, if_false, beq_iff_eq] at h
    have := ba_nil h
    rw [this]
    show (0 : Nat) ≤ 20
    omega
  · rw [if_pos rfl] at h
    unfold wordB at h
    simp at h
    omega
/-- A command. -/
structure CM where
  kind : Int
  topic : ByteArray
  name : ByteArray
  seq : Int
  key : ByteArray
  value : ByteArray
  n : Int
  node : Int
  ask : Int
/-- Is a command right? -/
def rightB (c : CM) : Bool := match ruleV c.kind with
  | none => false
  | some (t, n, p, lo, hi) => namedB c.topic t && namedB c.name n && (decide (lo ≤ c.n) && decide (c.n ≤ hi)) && (decide (0 ≤ c.node) && decide (0 ≤ c.ask) && decide (0 ≤ c.seq)) && decide (c.node < 7) && (decide (c.ask ≤ 9007199254740991) && decide (c.seq ≤ 9007199254740991)) &&
        (if p = true then decide (c.key.size ≤ 100) && decide (c.value.size ≤ 1000) else decide (c.seq = 0) && (c.key.toList == ([] : List UInt8)) && (c.value.toList == ([] : List UInt8)))
theorem right_is14 (c : CM) (h : c.key.size + c.value.size ≤ 9223372036854775807) : command_Right.f c.kind c.topic c.name c.seq c.key c.value c.n c.node c.ask = some (rightB c) := by
  unfold command_Right.f rightB
  rw [if_pos h]
  cases ruleV c.kind with
  | none => rfl
  | some q =>
    obtain ⟨t, n, p, lo, hi⟩ := q
    dsimp only
    rw [named_is, named_is]
    rfl
theorem rule_kind {k : Int} {q : Bool × Bool × Bool × Int × Int} (h : ruleV k = some q) : 1 ≤ k ∧ k ≤ 11 ∧ -1 ≤ q.2.2.2.1 ∧ q.2.2.2.2 ≤ 9007199254740991 := by
  unfold ruleV at h
  repeat' split at h
  all_goals first | (cases h; done) | (obtain rfl := Option.some.inj h; dsimp only; omega)
/-- What right commands are within. -/
structure CMok (c : CM) : Prop where
  kind : 1 ≤ c.kind ∧ c.kind ≤ 11
  topic : c.topic.size ≤ 20
  name : c.name.size ≤ 20
  seq : 0 ≤ c.seq ∧ c.seq ≤ 9007199254740991
  key : c.key.size ≤ 100
  value : c.value.size ≤ 1000
  n : -1 ≤ c.n ∧ c.n ≤ 9007199254740991
  node : 0 ≤ c.node ∧ c.node < 7
  ask : 0 ≤ c.ask ∧ c.ask ≤ 9007199254740991
theorem size_nil {s : ByteArray} (h : (s.toList == ([] : List UInt8)) = true) : s.size = 0 := by
  rw [ba_nil (beq_iff_eq.mp h)]
  rfl
theorem right_ok {c : CM} (h : rightB c = true) : CMok c := by
  unfold rightB at h
  split at h
  · cases h
  · rename_i t n p lo hi hq
    have hk := rule_kind hq
    dsimp only at hk
    simp only [Bool.and_eq_true, decide_eq_true_eq] at h
    obtain ⟨⟨⟨⟨⟨⟨h1, h2⟩, h3⟩, ⟨h4, h5⟩, h6⟩, h7⟩, h8, h9⟩, h10⟩ := h
    have hkv : c.key.size ≤ 100 ∧ c.value.size ≤ 1000 := by
      cases p
      · simp only [Bool.false_eq_true, if_false, Bool.and_eq_true] at h10
        have a := size_nil h10.1.2
        have b := size_nil h10.2
        omega
      · simpa using h10
    exact ⟨⟨hk.1, hk.2.1⟩, named_le h1, named_le h2, ⟨h6, h9⟩, hkv.1, hkv.2, by omega, ⟨h4, h7⟩, ⟨h5, h8⟩⟩
/-- The items of a command, and their bytes. -/
def cItems (c : CM) : List SI := [⟨1, c.kind, ⟨#[]⟩⟩, ⟨4, 0, c.topic⟩, ⟨4, 0, c.name⟩, ⟨3, c.seq, ⟨#[]⟩⟩, ⟨4, 0, c.key⟩, ⟨4, 0, c.value⟩, ⟨3, c.n + 1, ⟨#[]⟩⟩, ⟨1, c.node, ⟨#[]⟩⟩, ⟨3, c.ask, ⟨#[]⟩⟩]
def txN (s : ByteArray) : List Int := beI (s.size : Int) 4 ++ bytesOf s
def cBytes (c : CM) : List Int := beI c.kind 1 ++ (txN c.topic ++ (txN c.name ++ (beI c.seq 8 ++ (txN c.key ++ (txN c.value ++ (beI (c.n + 1) 8 ++ (beI c.node 1 ++ (beI c.ask 8 ++ []))))))))
theorem txN_len (s : ByteArray) : (txN s).length = 4 + s.size := by unfold txN; rw [List.length_append, beI_length, bytes_len]
theorem citems_enc {c : CM} (h : CMok c) : encAll (cItems c) = .ok (cBytes c) := by
  have hk := h.kind
  have ht := h.topic
  have hn := h.name
  have hy := h.key
  have hv := h.value
  have ho := h.node
  unfold cItems cBytes txN
  simp only [encAll, encBt _ (show (0 : Int) ≤ c.kind by omega) (show c.kind < 256 by omega), encBt _ (show (0 : Int) ≤ c.node by omega) (show c.node < 256 by omega), encTx _ (show c.topic.size ≤ 100000 by omega), encTx _ (show c.name.size ≤ 100000 by omega), encTx _ (show c.key.size ≤ 100000 by omega), encTx _ (show c.value.size ≤ 100000 by omega), encLg]
theorem citems_wf {c : CM} (h : CMok c) : ∀ x ∈ cItems c, WfI x := by
  have hk := h.kind
  have hs := h.seq
  have ht := h.topic
  have hn := h.name
  have hy := h.key
  have hv := h.value
  have ho := h.node
  have ha := h.ask
  have hnn := h.n
  intro x hx
  unfold cItems at hx
  simp only [List.mem_cons, List.not_mem_nil, or_false] at hx
  rcases hx with rfl | rfl | rfl | rfl | rfl | rfl | rfl | rfl | rfl
  · exact wfBt (by omega) (by omega)
  · exact wfTx (by omega)
  · exact wfTx (by omega)
  · exact wfLg (by omega) (by omega)
  · exact wfTx (by omega)
  · exact wfTx (by omega)
  · exact wfLg (by omega) (by omega)
  · exact wfBt (by omega) (by omega)
  · exact wfLg (by omega) (by omega)
theorem citems_len (c : CM) : (cItems c).length = 9 := rfl
theorem cBytes_len (c : CM) : (cBytes c).length = 42 + c.topic.size + c.name.size + c.key.size + c.value.size := by
  unfold cBytes
  simp only [List.length_append, beI_length, txN_len, List.length_nil]
  omega
def cText (c : CM) : ByteArray := strOfNums (cBytes c)
theorem cText_size (c : CM) : (cText c).size = 42 + c.topic.size + c.name.size + c.key.size + c.value.size := by
  unfold cText
  rw [son_size, cBytes_len]
theorem cText_le {c : CM} (h : CMok c) : (cText c).size ≤ 1182 := by
  rw [cText_size]
  have ht := h.topic
  have hn := h.name
  have hy := h.key
  have hv := h.value
  omega
theorem cenc_is (c : CM) (hz : c.key.size + c.value.size ≤ 9223372036854775807) (k : Nat) (hk : 1012 ≤ k) : command_Encode.f k c.kind c.topic c.name c.seq c.key c.value c.n c.node c.ask = some (if rightB c = true then (cText c, 0) else (⟨#[]⟩, 1)) := by
  unfold command_Encode.f
  rw [right_is14 c hz, Option.bind_some]
  cases h : rightB c
  · simp
  · have ho := right_ok h
    have e1 := wrapU64 (show 0 ≤ c.kind by have := ho.kind; omega) (by have := ho.kind; omega)
    have e2 := wrapU64 (show 0 ≤ c.seq by have := ho.seq; omega) (by have := ho.seq; omega)
    have e3 : wrap64 (c.n + 1) = c.n + 1 := wrap64_id (by have := ho.n; omega) (by have := ho.n; omega)
    have e4 := wrapU64 (show 0 ≤ c.n + 1 by have := ho.n; omega) (by have := ho.n; omega)
    have e5 := wrapU64 (show 0 ≤ c.node by have := ho.node; omega) (by have := ho.node; omega)
    have e6 := wrapU64 (show 0 ≤ c.ask by have := ho.ask; omega) (by have := ho.ask; omega)
    have hE : codec_Encode.f k (cItems c) = some (cText c, 0) := by
      rw [encode_is _ (citems_wf ho) k hk, encS_of (citems_enc ho) (by rw [citems_len]; omega)]
      rfl
    unfold cItems at hE
    rw [if_pos rfl, if_pos rfl]
    simp only [command_small.f, command_text.f, command_long.f, Option.bind_some, e1, e2, e3, e4, e5, e6]
    rw [hE]
    rfl
/-- One step of the sum. -/
def stp (v : Nat) : Nat := (v / 2) ^^^ ((v % 2) * 0x82F63B78)
def stpN : Nat → Nat → Nat
  | 0, v => v
  | n + 1, v => stpN n (stp v)
theorem stpN_add (m n v : Nat) : stpN (m + n) v = stpN n (stpN m v) := by
  induction m generalizing v with
  | zero => simp [stpN]
  | succ m ih => rw [Nat.succ_add]; exact ih _
theorem xlc (a b c : Nat) : a ^^^ (b ^^^ c) = b ^^^ (a ^^^ c) := by rw [← Nat.xor_assoc, Nat.xor_comm a b, Nat.xor_assoc]
theorem xcl (a b : Nat) : a ^^^ (a ^^^ b) = b := by rw [← Nat.xor_assoc, Nat.xor_self, Nat.zero_xor]
theorem xor_div2 (a b : Nat) : (a ^^^ b) / 2 = (a / 2) ^^^ (b / 2) := by
  have := @Nat.shiftRight_xor_distrib 1 a b
  simpa [Nat.shiftRight_succ] using this
theorem xor_mod2 (a b : Nat) : (a ^^^ b) % 2 = (a % 2) ^^^ (b % 2) := by
  have := @Nat.xor_mod_two_pow a b 1
  simpa using this
theorem stp_xor (a b : Nat) : stp (a ^^^ b) = stp a ^^^ stp b := by
  unfold stp
  rw [xor_div2, xor_mod2]
  rcases Nat.mod_two_eq_zero_or_one a with h | h <;> rcases Nat.mod_two_eq_zero_or_one b with h' | h' <;> rw [h, h'] <;> simp [Nat.xor_assoc, Nat.xor_comm, xlc, xcl]
theorem stpN_xor (n a b : Nat) : stpN n (a ^^^ b) = stpN n a ^^^ stpN n b := by
  induction n generalizing a b with
  | zero => rfl
  | succ n ih => simp only [stpN]; rw [stp_xor, ih]
theorem stp_even (h : Nat) : stp (2 * h) = h := by
  unfold stp
  rw [show 2 * h / 2 = h by omega, show 2 * h % 2 = 0 by omega]
  simp
theorem stpN_four (h : Nat) : stpN 4 (16 * h) = h := by
  show stp (stp (stp (stp (16 * h)))) = h
  rw [show 16 * h = 2 * (8 * h) by omega, stp_even, show 8 * h = 2 * (4 * h) by omega, stp_even, show 4 * h = 2 * (2 * h) by omega, stp_even, stp_even]
theorem split16 (v : Nat) : v = (16 * (v / 16)) ^^^ (v % 16) := by
  have h1 : v % 16 < 2 ^ 4 := by omega
  have h2 := Nat.two_pow_add_eq_or_of_lt h1 (v / 16)
  have h3 : 2 ^ 4 * (v / 16) ^^^ v % 16 = 2 ^ 4 * (v / 16) ||| v % 16 := by
    apply Nat.eq_of_testBit_eq
    intro i
    rw [Nat.testBit_xor, Nat.testBit_or, Nat.testBit_two_pow_mul]
    by_cases hi : i < 4
    · simp [show ¬ 4 ≤ i by omega]
    · have : (v % 16).testBit i = false := Nat.testBit_lt_two_pow (Nat.lt_of_lt_of_le h1 (Nat.pow_le_pow_right (by omega) (by omega)))
      simp [this]
  have h4 : 2 ^ 4 * (v / 16) + v % 16 = v := by omega
  show v = 2 ^ 4 * (v / 16) ^^^ v % 16
  rw [h3, ← h2, h4]
def tabN : List Nat := [0x00000000, 0x105EC76F, 0x20BD8EDE, 0x30E349B1, 0x417B1DBC, 0x5125DAD3, 0x61C69362, 0x7198540D, 0x82F63B78, 0x92A8FC17, 0xA24BB5A6, 0xB21572C9, 0xC38D26C4, 0xD3D3E1AB, 0xE330A81A, 0xF36E6F75]
theorem tab_is : ∀ j : Fin 16, stpN 4 j.val = tabN.getD j.val 0 := by decide
theorem nibble (v : Nat) : stpN 4 v = (v / 16) ^^^ tabN.getD (v % 16) 0 := by
  have h := split16 v
  have e : stpN 4 v = stpN 4 ((16 * (v / 16)) ^^^ (v % 16)) := by rw [← h]
  rw [e, stpN_xor, stpN_four, tab_is ⟨v % 16, by omega⟩]
/-- The bits of a byte, one behind the other: u after k bits. -/
def bitst (u b : Nat) : Nat := if b ≠ u % 2 then (u / 2) ^^^ 0x82F63B78 else u / 2
theorem bitst_is (u d : Nat) : stp (u ^^^ d) = bitst u (d % 2) ^^^ (d / 2) := by
  unfold stp bitst
  rw [xor_div2, xor_mod2]
  rcases Nat.mod_two_eq_zero_or_one u with h | h <;> rcases Nat.mod_two_eq_zero_or_one d with h' | h' <;> rw [h, h'] <;> simp [Nat.xor_assoc, Nat.xor_comm, xlc, xcl]
def bitsN : Nat → Nat → Nat → Nat
  | 0, u, _ => u
  | n + 1, u, d => bitsN n (bitst u (d % 2)) (d / 2)
theorem bitsN_is (n u d : Nat) : stpN n (u ^^^ d) = bitsN n u d ^^^ (d / 2 ^ n) := by
  induction n generalizing u d with
  | zero => simp [stpN, bitsN]
  | succ n ih =>
    simp only [stpN, bitsN]
    rw [bitst_is, ih, Nat.div_div_eq_div_mul, Nat.pow_succ, Nat.mul_comm]
theorem bitsN_byte (u c : Nat) (hc : c < 256) : bitsN 8 u c = stpN 8 (u ^^^ c) := by
  rw [bitsN_is, show c / 2 ^ 8 = 0 by omega]
  simp
theorem crcStepN_is (s : Nat) : crcStepN s = stpN 4 s := (nibble s).symm
theorem crcByteN_is (s c : Nat) : crcByteN s c = stpN 8 (s ^^^ c) := by
  unfold crcByteN
  rw [crcStepN_is, crcStepN_is, ← stpN_add]
theorem bt_nat (s : ByteArray) (i : Nat) : bt s (i : Int) = ((s.data.toList.getD i 0).toNat : Int) := by
  unfold bt
  have e : ((i : Int)).toNat = i := rfl
  rw [e]
  by_cases h : i < s.size
  · rw [dif_pos h]
    have hl : i < s.data.toList.length := by rw [Array.length_toList]; exact h
    rw [List.getD_eq_getElem?_getD, List.getElem?_eq_getElem hl]
    simp only [Option.getD_some]
    rfl
  · rw [dif_neg h]
    have hl : s.data.toList.length ≤ i := by rw [Array.length_toList]; exact Nat.not_lt.1 h
    rw [List.getD_eq_getElem?_getD, List.getElem?_eq_none hl]
    rfl
theorem shr8 (c j : Nat) (hj : j ≤ 8) : shr .u8 (c : Int) (j : Int) = ((c / 2 ^ j : Nat) : Int) := by
  unfold shr
  have e2 : (2 : Int) ^ j = ((2 ^ j : Nat) : Int) := by simp
  rw [show min ((j : Int)).toNat IntKind.u8.bits = j from Nat.min_eq_left hj]
  rw [e2]
  rfl
theorem xor0 : 4294967295 ^^^ (0 : Int).toNat = 4294967295 := by decide
theorem more_zero (s : ByteArray) (h : s.size ≤ 9223372036854775807) : crc_More.f 0 s = some ((4294967295 ^^^ crcFoldN 4294967295 s.data.toList : Nat) : Int) := by
  unfold crc_More.f
  rw [if_pos ⟨by decide, by decide, h⟩, xor0]
theorem more_on (m : Nat) (hm : m < 4294967296) (s : ByteArray) (h : s.size ≤ 9223372036854775807) : crc_More.f ((4294967295 ^^^ m : Nat) : Int) s = some ((4294967295 ^^^ crcFoldN m s.data.toList : Nat) : Int) := by
  have hx : 4294967295 ^^^ m < 4294967296 := xor_lt32 (by decide) hm
  unfold crc_More.f
  rw [if_pos ⟨by omega, by omega, h⟩]
  rw [show (((4294967295 ^^^ m : Nat) : Int)).toNat = 4294967295 ^^^ m from rfl, xcl]
theorem fold_append (s : Nat) (a b : List UInt8) : crcFoldN s (a ++ b) = crcFoldN (crcFoldN s a) b := by simp [crcFoldN]
theorem cdata_append (a b : ByteArray) : (a ++ b).data.toList = a.data.toList ++ b.data.toList := by rw [ByteArray.data_append, Array.toList_append]
def ls (s : ByteArray) : List UInt8 := s.data.toList
theorem ls_len (s : ByteArray) : (ls s).length = s.size := by unfold ls; rw [Array.length_toList]; rfl
theorem ls_append (a b : ByteArray) : ls (a ++ b) = ls a ++ ls b := cdata_append a b
theorem ls_extract (s : ByteArray) (a b : Nat) : ls (s.extract a b) = ((ls s).drop a).take (b - a) := by
  unfold ls
  rw [ByteArray.data_extract, Array.toList_extract]
/-- byte i of a text (0 behind its end) -/
def by8 (l : List UInt8) (i : Nat) : Nat := (l.getD i 0).toNat
theorem by8_lt (l : List UInt8) (i : Nat) : by8 l i < 256 := UInt8.toNat_lt _
/-- The number of four bytes. -/
def num4 (l : List UInt8) : Nat := by8 l 0 * 16777216 + by8 l 1 * 65536 + by8 l 2 * 256 + by8 l 3
theorem num4_lt (l : List UInt8) : num4 l < 4294967296 := by
  have := by8_lt l 0; have := by8_lt l 1; have := by8_lt l 2; have := by8_lt l 3
  unfold num4
  omega
/-- A number's four bytes. -/
def word4 (n : Nat) : List UInt8 := [UInt8.ofNat (n / 16777216), UInt8.ofNat (n / 65536), UInt8.ofNat (n / 256), UInt8.ofNat n]
theorem or_join (a b : Nat) (k : Nat) (hb : b < 2 ^ k) : a * 2 ^ k ||| b = a * 2 ^ k + b := by
  rw [Nat.mul_comm]
  exact (Nat.two_pow_add_eq_or_of_lt hb a).symm
theorem cnum_is (s : ByteArray) (h : 4 ≤ s.size) : crc_number.f s = some ((num4 (ls s) : Nat) : Int) := by
  unfold crc_number.f
  rw [if_pos (by omega), if_pos (by omega), if_pos (by omega), if_pos (by omega)]
  have b0 : bt s 0 = ((by8 (ls s) 0 : Nat) : Int) := bt_nat s 0
  have b1 : bt s 1 = ((by8 (ls s) 1 : Nat) : Int) := bt_nat s 1
  have b2 : bt s 2 = ((by8 (ls s) 2 : Nat) : Int) := bt_nat s 2
  have b3 : bt s 3 = ((by8 (ls s) 3 : Nat) : Int) := bt_nat s 3
  rw [b0, b1, b2, b3]
  unfold num4
  have h0 := by8_lt (ls s) 0
  have h1 := by8_lt (ls s) 1
  have h2 := by8_lt (ls s) 2
  have h3 := by8_lt (ls s) 3
  generalize by8 (ls s) 0 = n0 at *
  generalize by8 (ls s) 1 = n1 at *
  generalize by8 (ls s) 2 = n2 at *
  generalize by8 (ls s) 3 = n3 at *
  have e0 : (n0 : Int) % 4294967296 * 16777216 % 4294967296 = ((n0 * 16777216 : Nat) : Int) := by omega
  have e1 : (n1 : Int) % 4294967296 * 65536 % 4294967296 = ((n1 * 65536 : Nat) : Int) := by omega
  have e2 : (n2 : Int) % 4294967296 * 256 % 4294967296 = ((n2 * 256 : Nat) : Int) := by omega
  have e3 : (n3 : Int) % 4294967296 = ((n3 : Nat) : Int) := by omega
  rw [e0, e1, e2, e3, u32_or_nat _ _ (by omega) (by omega)]
  rw [show n0 * 16777216 ||| n1 * 65536 = n0 * 16777216 + n1 * 65536 from or_join n0 (n1 * 65536) 24 (by omega)]
  rw [u32_or_nat _ _ (by omega) (by omega)]
  rw [show (n0 * 16777216 + n1 * 65536) ||| n2 * 256 = n0 * 16777216 + n1 * 65536 + n2 * 256 by
    have := or_join (n0 * 256 + n1) (n2 * 256) 16 (by omega)
    rw [show (n0 * 256 + n1) * 2 ^ 16 = n0 * 16777216 + n1 * 65536 by omega] at this
    exact this]
  rw [u32_or_nat _ _ (by omega) (by omega)]
  rw [show (n0 * 16777216 + n1 * 65536 + n2 * 256) ||| n3 = n0 * 16777216 + n1 * 65536 + n2 * 256 + n3 by
    have := or_join (n0 * 65536 + n1 * 256 + n2) n3 8 (by omega)
    rw [show (n0 * 65536 + n1 * 256 + n2) * 2 ^ 8 = n0 * 16777216 + n1 * 65536 + n2 * 256 by omega] at this
    exact this]
theorem word_ls (n : Nat) : ls (strOfNums ([((n : Nat) : Int) / 16777216 % 256, (n : Int) / 65536 % 256, (n : Int) / 256 % 256, (n : Int) % 256] : List Int)) = word4 n := by
  unfold ls
  rw [strOfNums_data]
  unfold word4
  have e : ∀ m : Nat, UInt8.ofNat (((m : Int) % 256).toNat) = UInt8.ofNat m := by
    intro m
    have : ((m : Int) % 256).toNat = m % 256 := by omega
    rw [this]
    apply UInt8.toNat_inj.1
    simp
  simp only [List.map_cons, List.map_nil]
  rw [show ((n : Int) / 16777216) = ((n / 16777216 : Nat) : Int) from rfl, show ((n : Int) / 65536) = ((n / 65536 : Nat) : Int) from rfl, show ((n : Int) / 256) = ((n / 256 : Nat) : Int) from rfl, e, e, e, e]
/-- The sum that stands in a frame: of the length's bytes, gone on with the body. -/
def sumOf (l b : List UInt8) : Nat := 4294967295 ^^^ crcFoldN (crcFoldN 4294967295 l) b
/-- The sum of a text. -/
def sum0 (l : List UInt8) : Nat := 4294967295 ^^^ crcFoldN 4294967295 l
theorem sum_zero (s : ByteArray) (h : s.size ≤ 9223372036854775807) : crc_Sum.f s = some ((sum0 (ls s) : Nat) : Int) := by
  unfold crc_Sum.f
  rw [more_zero s h, Option.bind_some]
  unfold sum0 ls
  exact Eq.refl _
theorem sum_on (l : List UInt8) (b : ByteArray) (h : b.size ≤ 9223372036854775807) : crc_More.f ((sum0 l : Nat) : Int) b = some ((sumOf l (ls b) : Nat) : Int) := by
  unfold sum0
  rw [more_on _ (crcFoldN_lt l (by decide)) b h]
  unfold sumOf ls
  exact Eq.refl _
def word (n : Nat) : ByteArray := strOfNums ([((n : Nat) : Int) / 16777216 % 256, (n : Int) / 65536 % 256, (n : Int) / 256 % 256, (n : Int) % 256] : List Int)
theorem word_size (n : Nat) : (word n).size = 4 := by unfold word; rw [strOfNums_size]; rfl
theorem word_bytes (n : Nat) : ls (word n) = word4 n := word_ls n
def frame (b : ByteArray) : ByteArray := word b.size ++ word (sumOf (word4 b.size) (ls b)) ++ b
theorem frame_is (b : ByteArray) : crc_Frame.f b = some (if (b.size : Int) > 400000 then ((⟨#[]⟩ : ByteArray), 3) else (frame b, 0)) := by
  unfold crc_Frame.f
  by_cases h : (b.size : Int) > 400000
  · rw [if_pos h, if_pos h]
  · rw [if_neg h, if_neg h]
    have e0 : ((b.size : Int)) % 4294967296 = ((b.size : Nat) : Int) := by omega
    rw [e0]
    have hw : crc_word.f ((b.size : Nat) : Int) = some (word b.size) := rfl
    have hs : crc_Sum.f (word b.size) = some ((sum0 (word4 b.size) : Nat) : Int) := by
      rw [sum_zero _ (by rw [word_size]; omega), word_bytes]
    have hm := sum_on (word4 b.size) b (by omega)
    have hw2 : crc_word.f ((sumOf (word4 b.size) (ls b) : Nat) : Int) = some (word (sumOf (word4 b.size) (ls b))) := by
      generalize sumOf (word4 b.size) (ls b) = q
      rfl
    rw [hw, Option.bind_some, hs, Option.bind_some, hm, Option.bind_some, hw2, Option.bind_some]
    rw [if_pos (by rw [word_size, word_size]; omega), if_pos (by rw [ByteArray.size_append, word_size, word_size]; omega)]
    unfold frame
    exact Eq.refl _
/-- What Take answers. -/
def takeV (s : ByteArray) : ByteArray × Int × Int :=
  if s.size < 4 then (⟨#[]⟩, 0, 2) else if 400000 < num4 (ls s) then (⟨#[]⟩, 0, 3) else if s.size < 8 + num4 (ls s) then (⟨#[]⟩, 0, 2)
  else if sumOf ((ls s).take 4) (((ls s).drop 8).take (num4 (ls s))) = num4 ((ls s).drop 4) then (s.extract 8 (8 + num4 (ls s)), ((8 + num4 (ls s) : Nat) : Int), 0) else (⟨#[]⟩, 0, 4)
theorem take_is (s : ByteArray) (hs : s.size ≤ 9223372036854775807) : crc_Take.f s = some (takeV s) := by
  unfold crc_Take.f takeV
  by_cases h4 : s.size < 4
  · rw [if_pos (by omega), if_pos h4]
  · rw [if_neg (by omega), if_neg h4, cnum_is s (by omega), Option.bind_some]
    have hn := num4_lt (ls s)
    generalize hn4 : num4 (ls s) = n at *
    by_cases h5 : 400000 < n
    · rw [if_pos (by omega), if_pos h5]
    · rw [if_neg (by omega), if_neg h5]
      have w1 : IntKind.u64.wrap ((s.size : Int)) = (s.size : Int) := by rw [IntKind.wrap_u64]; omega
      have w2 : IntKind.u64.wrap ((n : Int)) = (n : Int) := by rw [IntKind.wrap_u64]; omega
      have w3 : IntKind.u64.wrap (8 + (n : Int)) = ((8 + n : Nat) : Int) := by rw [IntKind.wrap_u64]; omega
      rw [w1, w2, w3]
      by_cases h6 : s.size < 8 + n
      · rw [if_pos (by omega), if_pos h6]
      · rw [if_neg (by omega), if_neg h6]
        have w4 : (8 + (n : Int)) % 4294967296 = ((8 + n : Nat) : Int) := by omega
        have w5 : wrap64 (n : Int) = (n : Int) := by unfold wrap64; omega
        have w6 : wrap64 (8 + (n : Int)) = ((8 + n : Nat) : Int) := by unfold wrap64; omega
        rw [w4, w5, w6, if_pos (by omega), if_pos (by omega), if_pos (by decide), if_pos (by omega)]
        have e4 : (s.extract 0 4).size = 4 := by rw [← ls_len, ls_extract, List.length_take, List.length_drop, ls_len]; omega
        have hsum : crc_Sum.f (s.extract 0 4) = some ((sum0 ((ls s).take 4) : Nat) : Int) := by
          rw [sum_zero _ (by omega), ls_extract, List.drop_zero]
        have e8 : (s.extract 8 (8 + n)).size ≤ n := by rw [← ls_len, ls_extract, List.length_take]; omega
        have hm := sum_on ((ls s).take 4) (s.extract 8 (8 + n)) (by omega)
        rw [ls_extract s 8 (8 + n), show 8 + n - 8 = n by omega] at hm
        have e5 : (s.extract 4 s.size).size = s.size - 4 := by rw [← ls_len, ls_extract, List.length_take, List.length_drop, ls_len]; omega
        have hnum : crc_number.f (s.extract 4 s.size) = some ((num4 ((ls s).drop 4) : Nat) : Int) := by
          rw [cnum_is _ (by omega), ls_extract, List.take_of_length_le (by rw [List.length_drop, ls_len]; omega)]
        rw [show (((8 + n : Nat) : Int)).toNat = 8 + n from rfl]
        rw [hsum, Option.bind_some, hm, Option.bind_some, hnum, Option.bind_some]
        by_cases h7 : sumOf ((ls s).take 4) (((ls s).drop 8).take n) = num4 ((ls s).drop 4)
        · rw [if_pos (by rw [h7]), if_pos h7]
        · rw [if_neg (fun h => h7 (Int.ofNat_inj.1 h)), if_neg h7]
theorem sum0_append (l b : List UInt8) : sum0 (l ++ b) = sumOf l b := by
  unfold sum0 sumOf
  rw [fold_append]
theorem num4_take (l : List UInt8) (n : Nat) (h : 4 ≤ n) : num4 (l.take n) = num4 l := by
  have e : ∀ i, i < 4 → by8 (l.take n) i = by8 l i := by
    intro i hi
    unfold by8
    rw [List.getD_eq_getElem?_getD, List.getD_eq_getElem?_getD, List.getElem?_take_of_lt (by omega)]
  unfold num4
  rw [e 0 (by omega), e 1 (by omega), e 2 (by omega), e 3 (by omega)]
/-- What Take tells: a frame within the text, or nothing. -/
theorem take_tells (s : ByteArray) : (takeV s).2.2 = 0 ∧ (takeV s).2.1 = (((takeV s).1.size + 8 : Nat) : Int) ∧ (takeV s).1.size + 8 ≤ s.size ∨ (takeV s).2.2 ≠ 0 ∧ (takeV s).1 = ⟨#[]⟩ ∧ (takeV s).2.1 = 0 := by
  unfold takeV
  by_cases h4 : s.size < 4
  · rw [if_pos h4]; right; exact ⟨by decide, rfl, rfl⟩
  · rw [if_neg h4]
    generalize num4 (ls s) = n
    by_cases h5 : 400000 < n
    · rw [if_pos h5]; right; exact ⟨by decide, rfl, rfl⟩
    · rw [if_neg h5]
      by_cases h6 : s.size < 8 + n
      · rw [if_pos h6]; right; exact ⟨by decide, rfl, rfl⟩
      · rw [if_neg h6]
        generalize num4 ((ls s).drop 4) = q
        generalize sumOf ((ls s).take 4) (((ls s).drop 8).take n) = p
        by_cases h7 : p = q
        · rw [if_pos h7]
          have e8 : (s.extract 8 (8 + n)).size = n := by rw [← ls_len, ls_extract, List.length_take, List.length_drop, ls_len]; omega
          left
          refine ⟨rfl, ?_, ?_⟩
          · show ((8 + n : Nat) : Int) = (((s.extract 8 (8 + n)).size + 8 : Nat) : Int)
            omega
          · show (s.extract 8 (8 + n)).size + 8 ≤ s.size
            omega
        · rw [if_neg h7]; right; exact ⟨by decide, rfl, rfl⟩
def tupC (c : CM) (e : Int) : Int × ByteArray × ByteArray × Int × ByteArray × ByteArray × Int × Int × Int × Int := (c.kind, c.topic, c.name, c.seq, c.key, c.value, c.n, c.node, c.ask, e)
def zC : CM := ⟨0, ⟨#[]⟩, ⟨#[]⟩, 0, ⟨#[]⟩, ⟨#[]⟩, 0, 0, 0⟩
abbrev Lb : List UInt8 := [98, 116, 116, 108, 116, 116, 108, 98, 108]
theorem parse_b : parseS Lb = some ([1, 4, 4, 3, 4, 4, 3, 1, 3], []) := by decide
abbrev itemsC (a : Int) (t n : ByteArray) (s : Int) (y v : ByteArray) (m d q : Int) : List SI := [⟨1, a, ⟨#[]⟩⟩, ⟨4, 0, t⟩, ⟨4, 0, n⟩, ⟨3, s, ⟨#[]⟩⟩, ⟨4, 0, y⟩, ⟨4, 0, v⟩, ⟨3, m, ⟨#[]⟩⟩, ⟨1, d, ⟨#[]⟩⟩, ⟨3, q, ⟨#[]⟩⟩]
theorem cmd_items {b : ByteArray} (hb : b.size ≤ 1000000000000000) {l : List SI} (h : decodeS Lb b = (l, 0)) :
    ∃ a t n s y v m d q, l = itemsC a t n s y v m d q ∧ (0 ≤ a ∧ a < 256) ∧ (0 ≤ s ∧ s < 18446744073709551616) ∧ (0 ≤ m ∧ m < 18446744073709551616) ∧ (0 ≤ d ∧ d < 256) ∧ (0 ≤ q ∧ q < 18446744073709551616) ∧ y.size ≤ 100000 ∧ v.size ≤ 100000 ∧ ∃ e, encAll l = .ok e ∧ b = strOfNums e := by
  obtain ⟨e, h1, h2, h3, h4, h5⟩ := dec_fixed parse_b hb h
  have hea := encAll_each l e h1
  obtain ⟨x0, x1, x2, x3, x4, x5, x6, x7, x8, rfl⟩ : ∃ x0 x1 x2 x3 x4 x5 x6 x7 x8, l = [x0, x1, x2, x3, x4, x5, x6, x7, x8] := by
    have hlen : l.length = 9 := by have := congrArg List.length h4; simpa using this
    rcases l with _ | ⟨x0, _ | ⟨x1, _ | ⟨x2, _ | ⟨x3, _ | ⟨x4, _ | ⟨x5, _ | ⟨x6, _ | ⟨x7, _ | ⟨x8, _ | ⟨x9, l⟩⟩⟩⟩⟩⟩⟩⟩⟩⟩
    all_goals first | exact ⟨_, _, _, _, _, _, _, _, _, rfl⟩ | (simp only [List.length_cons, List.length_nil] at hlen; omega)
  simp only [List.map_cons, List.map_nil, List.cons.injEq, and_true] at h4
  obtain ⟨k0, k1, k2, k3, k4, k5, k6, k7, k8⟩ := h4
  obtain ⟨a0, e0⟩ := hea x0 (by simp)
  obtain ⟨a1, e1⟩ := hea x1 (by simp)
  obtain ⟨a2, e2⟩ := hea x2 (by simp)
  obtain ⟨a3, e3⟩ := hea x3 (by simp)
  obtain ⟨a4, e4⟩ := hea x4 (by simp)
  obtain ⟨a5, e5⟩ := hea x5 (by simp)
  obtain ⟨a6, e6⟩ := hea x6 (by simp)
  obtain ⟨a7, e7⟩ := hea x7 (by simp)
  obtain ⟨a8, e8⟩ := hea x8 (by simp)
  obtain ⟨v0, rfl, p0, p1⟩ := item1 e0 (h3 x0 (by simp)) k0
  obtain ⟨t1, rfl, _⟩ := item4 e1 k1
  obtain ⟨t2, rfl, _⟩ := item4 e2 k2
  obtain ⟨v3, rfl, p2, p3⟩ := item3 e3 (h3 x3 (by simp)) k3
  obtain ⟨t4, rfl, z4⟩ := item4 e4 k4
  obtain ⟨t5, rfl, z5⟩ := item4 e5 k5
  obtain ⟨v6, rfl, p4, p5⟩ := item3 e6 (h3 x6 (by simp)) k6
  obtain ⟨v7, rfl, p6, p7⟩ := item1 e7 (h3 x7 (by simp)) k7
  obtain ⟨v8, rfl, p8, p9⟩ := item3 e8 (h3 x8 (by simp)) k8
  exact ⟨v0, t1, t2, v3, t4, t5, v6, v7, v8, rfl, ⟨p0, p1⟩, ⟨p2, p3⟩, ⟨p4, p5⟩, ⟨p6, p7⟩, ⟨p8, p9⟩, z4, z5, e, h1, h2⟩
def cmOf (l : List SI) : CM := ⟨(l.getD 0 z57).f1, (l.getD 1 z57).f2, (l.getD 2 z57).f2, (l.getD 3 z57).f1, (l.getD 4 z57).f2, (l.getD 5 z57).f2, (l.getD 6 z57).f1 - 1, (l.getD 7 z57).f1, (l.getD 8 z57).f1⟩
/-- What is read of a body. -/
def cmdV (b : ByteArray) : CM × Int := if (decodeS Lb b).2 = 0 then (if rightB (cmOf (decodeS Lb b).1) = true then (cmOf (decodeS Lb b).1, 0) else (zC, 10)) else (zC, (decodeS Lb b).2)
theorem cdec_is (b : ByteArray) (hb : b.size ≤ 1000000000000000) (k : Nat) (hk : 6010 ≤ k) : command_Decode.f k b = some (tupC (cmdV b).1 (cmdV b).2) := by
  unfold command_Decode.f
  rw [decode_is _ b (by decide) hb k (by omega)]
  simp only [Option.bind_some]
  obtain ⟨k, rfl⟩ : ∃ m, k = m + 1 := ⟨k - 1, by omega⟩
  have hbad : ∀ l, command_Decode.j0 (k + 1) l true = some (tupC zC 10) := fun l => by
    simp only [command_Decode.j0]
    rw [if_pos trivial]
    rfl
  show (if (decodeS Lb b).2 = 0 then _ else _) = _
  by_cases h : (decodeS Lb b).2 = 0
  case neg =>
    unfold cmdV
    rw [if_neg h, if_neg h]
    rfl
  obtain ⟨l, hd⟩ : ∃ l, decodeS Lb b = (l, 0) := ⟨_, Prod.ext rfl h⟩
  obtain ⟨a, t, n, s, y, v, m, d, q, rfl, ha, hs, hm, hdd, hq, hy, hv, _⟩ := cmd_items hb hd
  have hrv : cmdV b = if rightB ⟨a, t, n, s, y, v, m - 1, d, q⟩ = true then (⟨a, t, n, s, y, v, m - 1, d, q⟩, 0) else (zC, 10) := by
    unfold cmdV
    rw [hd]
    rfl
  rw [show decodeS ((⟨#[98, 116, 116, 108, 116, 116, 108, 98, 108]⟩ : ByteArray).data.toList) b = (itemsC a t n s y v m d q, 0) from hd, hrv]
  dsimp only
  have r0 : rd_T57 (itemsC a t n s y v m d q) 0 = ⟨1, a, ⟨#[]⟩⟩ := rfl
  have r1 : rd_T57 (itemsC a t n s y v m d q) 1 = ⟨4, 0, t⟩ := rfl
  have r2 : rd_T57 (itemsC a t n s y v m d q) 2 = ⟨4, 0, n⟩ := rfl
  have r3 : rd_T57 (itemsC a t n s y v m d q) 3 = ⟨3, s, ⟨#[]⟩⟩ := rfl
  have r4 : rd_T57 (itemsC a t n s y v m d q) 4 = ⟨4, 0, y⟩ := rfl
  have r5 : rd_T57 (itemsC a t n s y v m d q) 5 = ⟨4, 0, v⟩ := rfl
  have r6 : rd_T57 (itemsC a t n s y v m d q) 6 = ⟨3, m, ⟨#[]⟩⟩ := rfl
  have r7 : rd_T57 (itemsC a t n s y v m d q) 7 = ⟨1, d, ⟨#[]⟩⟩ := rfl
  have r8 : rd_T57 (itemsC a t n s y v m d q) 8 = ⟨3, q, ⟨#[]⟩⟩ := rfl
  have hl : (itemsC a t n s y v m d q).length = 9 := rfl
  generalize itemsC a t n s y v m d q = L at r0 r1 r2 r3 r4 r5 r6 r7 r8 hl ⊢
  have hnot : ¬ (s ≤ 9007199254740991 ∧ m - 1 ≤ 9007199254740991 ∧ q ≤ 9007199254740991) → rightB ⟨a, t, n, s, y, v, m - 1, d, q⟩ = false := fun hn => by
    cases hr : rightB ⟨a, t, n, s, y, v, m - 1, d, q⟩
    · rfl
    · have ho := right_ok hr
      exact absurd ⟨ho.seq.2, ho.n.2, ho.ask.2⟩ hn
  rw [if_pos rfl, if_pos (by rw [hl]; decide), r3, r6, r8]
  simp only [command_fits.f, command_fitsOne.f, Option.bind_some]
  by_cases c0 : s ≤ 9007199254740991
  case neg => rw [if_neg (by simpa using c0), hbad, hnot (fun h => c0 h.1)]; rfl
  rw [if_pos (by simpa using c0), if_pos (by rw [hl]; decide)]
  by_cases c1 : m ≤ 9007199254740992
  case neg => rw [if_neg (by simpa using c1), hbad, hnot (fun h => c1 (by omega))]; rfl
  rw [if_pos (by simpa using c1), if_pos (by rw [hl]; decide)]
  by_cases c2 : q ≤ 9007199254740991
  case neg => rw [decide_eq_false c2, Bool.not_false, hbad, hnot (fun h => c2 h.2.2)]; rfl
  rw [decide_eq_true c2, Bool.not_true]
  simp only [command_Decode.j0]
  rw [if_neg (by decide), if_pos (by rw [hl]; decide), if_pos (by rw [hl]; decide), if_pos (by rw [hl]; decide), if_pos (by rw [hl]; decide), if_pos (by rw [hl]; decide), if_pos (by rw [hl]; decide), if_pos (by rw [hl]; decide)]
  rw [r0, r1, r2, r3, r4, r5, r6, r7, r8]
  simp only [command_less.f, Option.bind_some]
  rw [if_pos (by rw [hl]; decide), if_pos (by rw [hl]; decide)]
  rw [show wrap64 a = a by unfold wrap64; omega, show wrap64 s = s by unfold wrap64; omega, show wrap64 m = m by unfold wrap64; omega, show wrap64 (m - 1) = m - 1 by unfold wrap64; omega, show wrap64 d = d by unfold wrap64; omega, show wrap64 q = q by unfold wrap64; omega]
  rw [right_is14 ⟨a, t, n, s, y, v, m - 1, d, q⟩ (by dsimp only; omega)]
  simp only [Option.bind_some]
  cases rightB ⟨a, t, n, s, y, v, m - 1, d, q⟩
  · simp only [Bool.false_eq_true, if_false]
    rfl
  · simp only [if_true]
    rfl
/-- The body of a text that is one frame. -/
def framedV (s : ByteArray) : ByteArray × Int := if (takeV s).2.2 = 0 then (if (takeV s).2.1 = (s.size : Int) then ((takeV s).1, 0) else (⟨#[]⟩, 10)) else (⟨#[]⟩, (takeV s).2.2)
theorem framed_is (s : ByteArray) (hs : s.size ≤ 9223372036854775807) : command_framed.f s = some (framedV s) := by
  unfold command_framed.f framedV
  rw [take_is s hs, Option.bind_some]
  split
  · split
    · rfl
    · rfl
  · rfl
theorem framed_or (s : ByteArray) : (∃ b, framedV s = (b, 0) ∧ b.size ≤ s.size) ∨ ∃ e, e ≠ 0 ∧ framedV s = (⟨#[]⟩, e) := by
  unfold framedV
  split
  · split
    · rename_i h1 h2
      refine .inl ⟨_, rfl, ?_⟩
      rcases take_tells s with ⟨_, _, h3⟩ | ⟨h3, _⟩
      · omega
      · exact absurd h1 h3
    · exact .inr ⟨10, by decide, rfl⟩
  · rename_i h
    exact .inr ⟨_, h, rfl⟩
/-- What is read of a client's bytes. -/
def askedV (s : ByteArray) : CM × Int := if (framedV s).2 = 0 then (if (cmdV (framedV s).1).2 = 0 ∧ (cmdV (framedV s).1).1.node = 0 then ((cmdV (framedV s).1).1, 0) else (zC, 10)) else (zC, (framedV s).2)
theorem asked_is (s : ByteArray) (hs : s.size ≤ 140737488351232) (k : Nat) (hk : 6010 ≤ k) : command_Asked.f k s = some (tupC (askedV s).1 (askedV s).2) := by
  unfold command_Asked.f askedV
  rw [framed_is s (by omega)]
  simp only [Option.bind_some]
  by_cases h : (framedV s).2 = 0
  · rw [if_pos h, if_pos h]
    have hz : (framedV s).1.size ≤ 1000000000000000 := by
      rcases framed_or s with ⟨b, hb, hl⟩ | ⟨e, he, hb⟩
      · rw [hb]; dsimp only; omega
      · rw [hb] at h; exact absurd h he
    rw [cdec_is _ hz k hk]
    simp only [Option.bind_some, tupC]
    by_cases h1 : (cmdV (framedV s).1).2 = 0
    · rw [if_pos h1]
      by_cases h2 : (cmdV (framedV s).1).1.node = 0
      · rw [if_pos h2, if_pos ⟨h1, h2⟩]
      · rw [if_neg h2, if_neg (fun h => h2 h.2)]; rfl
    · rw [if_neg h1, if_neg (fun h => h1 h.1)]; rfl
  · rw [if_neg h, if_neg h]; rfl
def reqV (c : CM) : ByteArray × Int := if rightB c = true ∧ c.node = 0 then (frame (cText c), 0) else (⟨#[]⟩, 1)
theorem req_is (c : CM) (hz : c.key.size + c.value.size ≤ 9223372036854775807) (k : Nat) (hk : 1012 ≤ k) : command_Request.f k c.kind c.topic c.name c.seq c.key c.value c.n c.node c.ask = some (reqV c) := by
  unfold command_Request.f reqV
  rw [cenc_is c hz k hk]
  simp only [Option.bind_some]
  by_cases h : rightB c = true
  · rw [if_pos h]
    dsimp only
    rw [if_pos rfl]
    by_cases h2 : c.node = 0
    · have hl := cText_le (right_ok h)
      rw [if_pos h2, if_pos ⟨h, h2⟩, frame_is, if_neg (by omega)]
      rfl
    · rw [if_neg h2, if_neg (fun h => h2 h.2)]
  · rw [if_neg h]
    dsimp only
    rw [if_neg (by decide), if_neg (fun hh => h hh.1)]
theorem u8_nat {c : UInt8} {n : Nat} (h : n < 256) : ((c.toNat : Nat) : Int) = (n : Int) ↔ c = n.toUInt8 := by
  constructor
  · intro e
    have : c.toNat = n := by omega
    rw [← this]
    simp
  · rintro rfl
    simp
    omega
theorem kindOf_is (c : UInt8) : carillonref01_kindOf.f ((c.toNat : Nat) : Int) = some (kindI c) := by
  unfold carillonref01_kindOf.f kindI
  have e1 : (((c.toNat : Nat) : Int) = 98) = (c = 98) := propext (u8_nat (n := 98) (by decide))
  have e2 : (((c.toNat : Nat) : Int) = 119) = (c = 119) := propext (u8_nat (n := 119) (by decide))
  have e3 : (((c.toNat : Nat) : Int) = 108) = (c = 108) := propext (u8_nat (n := 108) (by decide))
  have e4 : (((c.toNat : Nat) : Int) = 116) = (c = 116) := propext (u8_nat (n := 116) (by decide))
  simp only [e1, e2, e3, e4]
  repeat' split <;> simp_all
theorem drop_step (s : ByteArray) (i : Nat) (h : i < s.size) : s.data.toList.drop i = s.data.toList.getD i 0 :: s.data.toList.drop (i + 1) := by
  rw [List.drop_eq_getElem_cons (by rw [data_len]; exact h), List.getD_eq_getElem?_getD, List.getElem?_eq_getElem (by rw [data_len]; exact h)]
  rfl
theorem kinds_tail (a0 : ByteArray) (hz : a0.size ≤ 1048576) (a : List Int) (d : Nat) : ∀ (i : Nat) (b : List Int) (k : Nat), i + d = a0.size → b.length ≤ i → d < k →
    carillonref01_kinds.l0 k a0 a b true (i : Int) = some (if (a0.data.toList.drop i).all letB then (a, b ++ (a0.data.toList.drop i).map kindI, decide (0 < (b ++ (a0.data.toList.drop i).map kindI).length)) else ([], [], false)) := by
  induction d with
  | zero =>
    intro i b k hi hb hk
    obtain ⟨k, rfl⟩ : ∃ m, k = m + 1 := ⟨k - 1, by omega⟩
    rw [List.drop_of_length_le (by rw [data_len]; omega)]
    simp only [carillonref01_kinds.l0]
    rw [if_neg (by omega), if_pos trivial]
    simp
  | succ d ih =>
    intro i b k hi hb hk
    obtain ⟨k, rfl⟩ : ∃ m, k = m + 1 := ⟨k - 1, by omega⟩
    have hlt : i < a0.size := by omega
    obtain ⟨c, hc⟩ : ∃ c, a0.data.toList.getD i 0 = c := ⟨_, rfl⟩
    rw [drop_step a0 i hlt, hc]
    simp only [carillonref01_kinds.l0]
    have ew : wrap64 ((i : Int) + 1) = ((i + 1 : Nat) : Int) := by rw [wrap64_id] <;> omega
    rw [if_pos (by omega), if_pos (by omega), bt_get a0 i hlt, hc, kindOf_is]
    simp only [Option.bind_some, if_true, List.all_cons, List.map_cons]
    have hr := kindI_range c
    by_cases h0 : kindI c = 0
    · have hf : letB c = false := by rw [Bool.eq_false_iff]; intro h; have := (letB_iff c).1 h; omega
      simp only [h0, if_true, hf, Bool.false_and]
      split <;> rfl
    · have hf : letB c = true := (letB_iff c).2 (by omega)
      have hn : ¬ (((c.toNat : Nat) : Int) = 42) := fun h => h0 (by have := (u8_nat (n := 42) (by decide)).1 h; rw [this]; decide)
      rw [if_neg hn, if_neg h0, if_pos (by omega), ew, ih (i + 1) (b ++ [kindI c]) k (by omega) (by simp; omega) (by omega), hf, Bool.true_and]
      simp
theorem kinds_head (a0 : ByteArray) (hz : a0.size ≤ 1048576) (d : Nat) : ∀ (i : Nat) (a : List Int) (k : Nat), i + d = a0.size → a.length ≤ i → d < k →
    ((42 : UInt8) ∉ a0.data.toList.drop i → carillonref01_kinds.l0 k a0 a [] false (i : Int) = some (if (a0.data.toList.drop i).all letB then (a ++ (a0.data.toList.drop i).map kindI, [], true) else ([], [], false))) ∧
    (∀ hd tl, a0.data.toList.drop i = hd ++ 42 :: tl → (42 : UInt8) ∉ hd → carillonref01_kinds.l0 k a0 a [] false (i : Int) = some (if (hd ++ tl).all letB then (a ++ hd.map kindI, tl.map kindI, !tl.isEmpty) else ([], [], false))) := by
  induction d with
  | zero =>
    intro i a k hi hb hk
    obtain ⟨k, rfl⟩ : ∃ m, k = m + 1 := ⟨k - 1, by omega⟩
    rw [List.drop_of_length_le (by rw [data_len]; omega)]
    constructor
    · intro _
      simp only [carillonref01_kinds.l0]
      rw [if_neg (by omega), if_neg (by decide)]
      simp
    · intro hd tl h
      cases hd <;> simp at h
  | succ d ih =>
    intro i a k hi hb hk
    obtain ⟨k, rfl⟩ : ∃ m, k = m + 1 := ⟨k - 1, by omega⟩
    have hlt : i < a0.size := by omega
    obtain ⟨c, hc⟩ : ∃ c, a0.data.toList.getD i 0 = c := ⟨_, rfl⟩
    have ew : wrap64 ((i : Int) + 1) = ((i + 1 : Nat) : Int) := by rw [wrap64_id] <;> omega
    have hr := kindI_range c
    have step : carillonref01_kinds.l0 (k + 1) a0 a [] false (i : Int) = if c = 42 then carillonref01_kinds.l0 k a0 a [] true ((i + 1 : Nat) : Int) else if kindI c = 0 then some ([], [], false) else carillonref01_kinds.l0 k a0 (a ++ [kindI c]) [] false ((i + 1 : Nat) : Int) := by
      simp only [carillonref01_kinds.l0]
      rw [if_pos (by omega), if_pos (by omega), bt_get a0 i hlt, hc, kindOf_is]
      simp only [Option.bind_some]
      by_cases h4 : c = 42
      · rw [if_pos (show ((c.toNat : Nat) : Int) = 42 by rw [h4]; rfl), if_pos h4, if_neg (by decide), ew]
      · rw [if_neg (show ¬ ((c.toNat : Nat) : Int) = 42 from fun h => h4 ((u8_nat (n := 42) (by decide)).1 h)), if_neg h4]
        by_cases h0 : kindI c = 0
        · rw [if_pos h0, if_pos h0]
        · rw [if_neg h0, if_neg h0, if_neg (by decide), if_pos (by omega), ew]
    rw [drop_step a0 i hlt, hc, step]
    constructor
    · intro hn
      simp only [List.mem_cons, not_or] at hn
      rw [if_neg (fun h => hn.1 h.symm)]
      simp only [List.all_cons, List.map_cons]
      by_cases h0 : kindI c = 0
      · have hf : letB c = false := by rw [Bool.eq_false_iff]; intro h; have := (letB_iff c).1 h; omega
        rw [if_pos h0, hf]
        rfl
      · have hf : letB c = true := (letB_iff c).2 (by omega)
        rw [if_neg h0, (ih (i + 1) (a ++ [kindI c]) k (by omega) (by simp; omega) (by omega)).1 hn.2, hf, Bool.true_and]
        simp
    · intro hd tl h hn
      cases hd with
      | nil =>
        simp only [List.nil_append, List.cons.injEq] at h
        obtain ⟨rfl, h⟩ := h
        have := kinds_tail a0 hz a d (i + 1) [] k (by omega) (by simp) (by omega)
        rw [if_pos rfl, this, h]
        simp only [List.nil_append, List.map_nil, List.append_nil]
        split
        · cases tl <;> simp
        · rfl
      | cons x hd =>
        simp only [List.cons_append, List.cons.injEq] at h
        obtain ⟨rfl, h⟩ := h
        simp only [List.mem_cons, not_or] at hn
        rw [if_neg (fun h => hn.1 h.symm)]
        simp only [List.cons_append, List.all_cons, List.map_cons]
        by_cases h0 : kindI c = 0
        · have hf : letB c = false := by rw [Bool.eq_false_iff]; intro h; have := (letB_iff c).1 h; omega
          rw [if_pos h0, hf]
          rfl
        · have hf : letB c = true := (letB_iff c).2 (by omega)
          rw [if_neg h0, (ih (i + 1) (a ++ [kindI c]) k (by omega) (by simp; omega) (by omega)).2 hd tl h hn.2, hf, Bool.true_and]
          simp
theorem kinds_is (a0 : ByteArray) (hz : a0.size ≤ 1048576) (k : Nat) (hk : 1048577 ≤ k) : match parseS a0.data.toList with
    | some (a, b) => carillonref01_kinds.f k a0 = some (a, b, true)
    | none => ∃ a b, carillonref01_kinds.f k a0 = some (a, b, false) := by
  unfold carillonref01_kinds.f
  have hh := kinds_head a0 hz a0.size 0 [] k (by omega) (by simp) (by omega)
  rw [List.drop_zero] at hh
  by_cases h : (42 : UInt8) ∈ a0.data.toList
  · obtain ⟨hd, tl, h1, h2⟩ := cut_at _ _ h
    have := hh.2 hd tl h1 h2
    rw [h1, parse_star hd tl h2]
    rw [show ((0 : Nat) : Int) = 0 from rfl] at this
    cases g1 : (hd ++ tl).all letB
    · rw [g1] at this
      exact ⟨_, _, this⟩
    · rw [g1] at this
      cases tl with
      | nil => exact ⟨_, _, this⟩
      | cons x tl => exact this
  · have := hh.1 h
    rw [show ((0 : Nat) : Int) = 0 from rfl] at this
    rw [parse_plain _ h]
    cases g1 : a0.data.toList.all letB
    · rw [g1] at this
      exact ⟨_, _, this⟩
    · rw [g1] at this
      exact this
/-- The document's number of some bytes. -/
theorem value_is (s : ByteArray) (hz : s.size ≤ 8) (d : Nat) : ∀ (i : Nat) (k : Nat), i + d = s.size → d < k → carillonref01_value.l0 k s ((beNat (s.data.toList.take i) : Nat) : Int) (i : Int) = some ((beNat s.data.toList : Nat) : Int) := by
  induction d with
  | zero =>
    intro i k hi hk
    obtain ⟨k, rfl⟩ : ∃ m, k = m + 1 := ⟨k - 1, by omega⟩
    simp only [carillonref01_value.l0]
    rw [if_neg (by omega), List.take_of_length_le (by rw [data_len]; omega)]
  | succ d ih =>
    intro i k hi hk
    obtain ⟨k, rfl⟩ : ∃ m, k = m + 1 := ⟨k - 1, by omega⟩
    have hlt : i < s.size := by omega
    have ew : wrap64 ((i : Int) + 1) = ((i + 1 : Nat) : Int) := by rw [wrap64_id] <;> omega
    simp only [carillonref01_value.l0]
    rw [if_pos (by omega), if_pos (by omega), bt_get s i hlt, ew]
    have hb := beNat_lt (s.data.toList.take i)
    have hp : 256 ^ (s.data.toList.take i).length ≤ 256 ^ 7 := Nat.pow_le_pow_right (by decide) (by rw [List.length_take, data_len]; omega)
    have h7 : (256 : Nat) ^ 7 = 72057594037927936 := by decide
    have hc := (s.data.toList.getD i 0).toNat_lt
    have e := beNat_snoc (s.data.toList.take i) (s.data.toList.getD i 0)
    rw [← take_snocB _ i (by rw [data_len]; exact hlt)] at e
    have ev : IntKind.u64.wrap (IntKind.u64.wrap (256 * ((beNat (s.data.toList.take i) : Nat) : Int)) + IntKind.u64.wrap (((s.data.toList.getD i 0).toNat : Nat) : Int)) = ((beNat (s.data.toList.take (i + 1)) : Nat) : Int) := by
      show ((256 * ((beNat (s.data.toList.take i) : Nat) : Int)) % 18446744073709551616 + (((s.data.toList.getD i 0).toNat : Nat) : Int) % 18446744073709551616) % 18446744073709551616 = _
      rw [e]
      omega
    rw [ev]
    exact ih (i + 1) k (by omega) (by omega)
theorem value_f (s : ByteArray) (hz : s.size ≤ 8) (k : Nat) (hk : 9 ≤ k) : carillonref01_value.f k s = some ((beNat s.data.toList : Nat) : Int) := by
  have := value_is s hz s.size 0 k (by omega) (by omega)
  simpa [carillonref01_value.f, beNat] using this
/-- How many bytes an item has. -/
def takeN (k : Int) (s : ByteArray) : Nat := if k = 4 then 4 + beNat (s.data.toList.take 4) else widthI k
theorem take_rest {k : Int} {s : ByteArray} {x : S57} {s' : ByteArray} (h : takeS k s = .ok (x, s')) : s' = s.extract (takeN k s) s.size ∧ takeN k s ≤ s.size := by
  unfold takeS at h
  unfold takeN
  split at h
  · rename_i h4
    rw [if_pos h4]
    split at h
    · cases h
    · split at h
      · cases h
      · split at h
        · cases h
        · cases h
          exact ⟨rfl, by omega⟩
  · rename_i h4
    rw [if_neg h4]
    split at h
    · cases h
    · cases h
      exact ⟨rfl, by omega⟩
theorem rtake_is (k : Nat) (hk : 9 ≤ k) (κ : Int) (s : ByteArray) (h1 : 1 ≤ κ) (h4 : κ ≤ 4) (hs : s.size ≤ 140737488351232) : carillonref01_take.f k κ s = some (match takeS κ s with
    | .error e => (0, 0, ⟨#[]⟩, 0, e)
    | .ok (x, _) => (x.f0, x.f1, x.f2, ((takeN κ s : Nat) : Int), 0)) := by
  unfold carillonref01_take.f takeS takeN
  have ew : carillonref01_width.f κ = some ((widthI κ : Nat) : Int) := by
    have : κ = 1 ∨ κ = 2 ∨ κ = 3 ∨ κ = 4 := by omega
    rcases this with rfl | rfl | rfl | rfl <;> rfl
  rw [ew]
  simp only [Option.bind_some]
  by_cases h : κ = 4
  · subst h
    rw [if_neg (by decide), if_pos rfl]
    by_cases g : s.size < 4
    · rw [if_pos (by omega), if_pos g]
    · have hv := value_f (s.extract 0 4) (by rw [ByteArray.size_extract]; omega) k hk
      have el : (s.extract 0 4).data.toList = s.data.toList.take 4 := by rw [ext_list]; simp
      rw [el] at hv
      rw [if_neg (by omega), if_neg g, if_pos (by omega), if_pos (by omega), hv]
      obtain ⟨v, hv'⟩ : ∃ v, v = beNat (s.data.toList.take 4) := ⟨_, rfl⟩
      rw [← hv']
      simp only [Option.bind_some]
      by_cases g2 : 100000 < v
      · rw [if_pos (by omega), if_pos g2]
      · rw [if_neg (by omega), if_neg g2]
        have e1 : IntKind.u64.wrap (wrap64 ((s.size : Int) - 4)) = ((s.size - 4 : Nat) : Int) := by
          rw [wrap64_id (by omega) (by omega)]
          show ((s.size : Int) - 4) % 18446744073709551616 = _
          omega
        have e2 : wrap64 (4 + wrap64 (v : Int)) = ((4 + v : Nat) : Int) := by rw [wrap64_id (n := (v : Int)) (by omega) (by omega), wrap64_id] <;> omega
        rw [e1, e2]
        by_cases g3 : s.size - 4 < v
        · rw [if_pos (by omega), if_pos g3]
        · rw [if_neg (by omega), if_neg g3, if_pos (by omega), if_pos (by omega)]
          rfl
  · have hw : 0 < widthI κ ∧ widthI κ ≤ 8 := by
      have : κ = 1 ∨ κ = 2 ∨ κ = 3 := by omega
      rcases this with rfl | rfl | rfl <;> decide
    rw [if_pos (by omega), if_neg h]
    by_cases g : s.size < widthI κ
    · rw [if_pos (by omega), if_pos g]
    · have hv := value_f (s.extract 0 (widthI κ)) (by rw [ByteArray.size_extract]; omega) k hk
      have el : (s.extract 0 (widthI κ)).data.toList = s.data.toList.take (widthI κ) := by rw [ext_list]; simp
      rw [el] at hv
      rw [if_neg (by omega), if_neg g, if_pos (by omega), if_pos (by omega), show (((widthI κ : Nat) : Int)).toNat = widthI κ from rfl, hv, if_neg h]
      rfl
theorem arm_is (k : Nat) (hk : 9 ≤ k) (κ : Int) (s : ByteArray) (out : List S57) (h1 : 1 ≤ κ) (h4 : κ ≤ 4) (hs : s.size ≤ 140737488351232) (ho : out.length ≤ 1000) (F : ByteArray → List S57 → Option (List S57 × Int)) :
    ((carillonref01_take.f k κ s).bind fun bt => (if bt.2.2.2.2 = 0 then (if out.length < 4398046511104 then (if 0 ≤ bt.2.2.2.1 then (if bt.2.2.2.1 ≤ (s.size : Int) then F (s.extract (bt.2.2.2.1 : Int).toNat s.size) (out ++ [(⟨bt.1, bt.2.1, bt.2.2.1⟩ : S57)]) else none) else none) else none) else some (([] : List S57), bt.2.2.2.2))) =
    match takeS κ s with
      | .error e => some ([], e)
      | .ok (x, s') => F s' (out ++ [x]) := by
  rw [rtake_is k hk κ s h1 h4 hs]
  simp only [Option.bind_some]
  cases h : takeS κ s with
  | error e =>
    simp only
    have : e ≠ 0 := by
      unfold takeS at h
      split at h
      · split at h
        · cases h; decide
        · split at h
          · cases h; decide
          · split at h
            · cases h; decide
            · cases h
      · split at h
        · cases h; decide
        · cases h
    rw [if_neg this]
  | ok p =>
    obtain ⟨x, s'⟩ := p
    have hr := take_rest h
    simp only [if_true]
    rw [if_pos (by omega), if_pos (by omega), if_pos (by omega), show (((takeN κ s : Nat) : Int)).toNat = takeN κ s from rfl, ← hr.1]
def curR (a b : List Int) (x : Nat) : List Int := if x < a.length then a.drop x else if (x - a.length) % b.length = 0 then [] else b.drop ((x - a.length) % b.length)
theorem rd_nat (l : List Int) (i : Nat) (h : i < l.length) : rd l (i : Int) = l[i] := by
  unfold rd
  rw [show ((i : Int)).toNat = i from rfl, List.getD_eq_getElem?_getD, List.getElem?_eq_getElem h]
  rfl
theorem curR_head (a b : List Int) (x : Nat) (h : x < a.length) : curR a b x = a[x] :: curR a b (x + 1) := by
  unfold curR
  rw [if_pos h, List.drop_eq_getElem_cons h]
  congr 1
  by_cases g : x + 1 < a.length
  · rw [if_pos g]
  · rw [if_neg g, show x + 1 - a.length = 0 by omega, if_pos (by simp), List.drop_of_length_le (by omega)]
theorem mod_next (m n : Nat) (h : 0 < n) : (m + 1) % n = if m % n + 1 = n then 0 else m % n + 1 := by
  have h1 := Nat.mod_lt m h
  rw [Nat.add_mod]
  by_cases g : m % n + 1 = n
  · rw [if_pos g]
    by_cases e : n = 1
    · subst e; simp [Nat.mod_one]
    · rw [Nat.mod_eq_of_lt (show 1 < n by omega), g, Nat.mod_self]
  · rw [if_neg g, Nat.mod_eq_of_lt (show 1 < n by omega), Nat.mod_eq_of_lt (by omega)]
theorem curR_tail (a b : List Int) (x : Nat) (h : a.length ≤ x) (hb : 0 < b.length) : b.drop ((x - a.length) % b.length) = b[(x - a.length) % b.length]'(Nat.mod_lt _ hb) :: curR a b (x + 1) := by
  have h1 := Nat.mod_lt (x - a.length) hb
  rw [List.drop_eq_getElem_cons h1]
  congr 1
  unfold curR
  rw [if_neg (by omega), show x + 1 - a.length = (x - a.length) + 1 by omega, mod_next _ _ hb]
  by_cases g : (x - a.length) % b.length + 1 = b.length
  · rw [if_pos g, if_pos rfl, List.drop_of_length_le (by omega)]
  · rw [if_neg g, if_neg (by omega)]
/-- One round of the document's reading, told in one piece. -/
theorem rl0_old (k : Nat) (x1 : ByteArray) (x6 x7 : List Int) (x9 : List S57) (x10 : Int) : carillonref01_Decode.l0 (k + 4) x1 x6 x7 x9 x10 = if x10 < (x6.length : Int) then (if x10 ≥ (x6.length : Int) then (if (x7.length : Int) = 0 then (none) else (if (Int.tmod (wrap64 (x10 - (x6.length : Int))) (x7.length : Int)) = 0 then (if x1.toList = ([] : List UInt8) then (some (x9, 0)) else (if 0 ≤ x10 then (if (x9.length : Int) = 1000 then (some (([] : List (S57)), 3)) else ((carillonref01_take.f k (rd x6 x10) x1).bind fun bt190 => (if bt190.2.2.2.2 = 0 then (if x9.length < 4398046511104 then (if 0 ≤ bt190.2.2.2.1 then (if bt190.2.2.2.1 ≤ (x1.size : Int) then (carillonref01_Decode.l0 k (x1.extract (bt190.2.2.2.1 : Int).toNat x1.size) x6 x7 (x9 ++ [(⟨bt190.1, bt190.2.1, bt190.2.2.1⟩ : S57)]) (wrap64 (x10 + 1))) else (none)) else (none)) else (none)) else (some (([] : List (S57)), bt190.2.2.2.2))))) else (none))) else (if 0 ≤ x10 then (if (x9.length : Int) = 1000 then (some (([] : List (S57)), 3)) else ((carillonref01_take.f k (rd x6 x10) x1).bind fun bt200 => (if bt200.2.2.2.2 = 0 then (if x9.length < 4398046511104 then (if 0 ≤ bt200.2.2.2.1 then (if bt200.2.2.2.1 ≤ (x1.size : Int) then (carillonref01_Decode.l0 k (x1.extract (bt200.2.2.2.1 : Int).toNat x1.size) x6 x7 (x9 ++ [(⟨bt200.1, bt200.2.1, bt200.2.2.1⟩ : S57)]) (wrap64 (x10 + 1))) else (none)) else (none)) else (none)) else (some (([] : List (S57)), bt200.2.2.2.2))))) else (none)))) else (if 0 ≤ x10 then (if (x9.length : Int) = 1000 then (some (([] : List (S57)), 3)) else ((carillonref01_take.f k (rd x6 x10) x1).bind fun bt210 => (if bt210.2.2.2.2 = 0 then (if x9.length < 4398046511104 then (if 0 ≤ bt210.2.2.2.1 then (if bt210.2.2.2.1 ≤ (x1.size : Int) then (carillonref01_Decode.l0 k (x1.extract (bt210.2.2.2.1 : Int).toNat x1.size) x6 x7 (x9 ++ [(⟨bt210.1, bt210.2.1, bt210.2.2.1⟩ : S57)]) (wrap64 (x10 + 1))) else (none)) else (none)) else (none)) else (some (([] : List (S57)), bt210.2.2.2.2))))) else (none))) else (if (x7.length : Int) > 0 then (if x10 ≥ (x6.length : Int) then (if (x7.length : Int) = 0 then (none) else (if (Int.tmod (wrap64 (x10 - (x6.length : Int))) (x7.length : Int)) = 0 then (if x1.toList = ([] : List UInt8) then (some (x9, 0)) else (if 0 ≤ (Int.tmod (wrap64 (x10 - (x6.length : Int))) (x7.length : Int)) then (if (Int.tmod (wrap64 (x10 - (x6.length : Int))) (x7.length : Int)) < (x7.length : Int) then (if (x9.length : Int) = 1000 then (some (([] : List (S57)), 3)) else ((carillonref01_take.f k (rd x7 (Int.tmod (wrap64 (x10 - (x6.length : Int))) (x7.length : Int))) x1).bind fun bt220 => (if bt220.2.2.2.2 = 0 then (if x9.length < 4398046511104 then (if 0 ≤ bt220.2.2.2.1 then (if bt220.2.2.2.1 ≤ (x1.size : Int) then (carillonref01_Decode.l0 k (x1.extract (bt220.2.2.2.1 : Int).toNat x1.size) x6 x7 (x9 ++ [(⟨bt220.1, bt220.2.1, bt220.2.2.1⟩ : S57)]) (wrap64 (x10 + 1))) else (none)) else (none)) else (none)) else (some (([] : List (S57)), bt220.2.2.2.2))))) else (none)) else (none))) else (if 0 ≤ (Int.tmod (wrap64 (x10 - (x6.length : Int))) (x7.length : Int)) then (if (Int.tmod (wrap64 (x10 - (x6.length : Int))) (x7.length : Int)) < (x7.length : Int) then (if (x9.length : Int) = 1000 then (some (([] : List (S57)), 3)) else ((carillonref01_take.f k (rd x7 (Int.tmod (wrap64 (x10 - (x6.length : Int))) (x7.length : Int))) x1).bind fun bt230 => (if bt230.2.2.2.2 = 0 then (if x9.length < 4398046511104 then (if 0 ≤ bt230.2.2.2.1 then (if bt230.2.2.2.1 ≤ (x1.size : Int) then (carillonref01_Decode.l0 k (x1.extract (bt230.2.2.2.1 : Int).toNat x1.size) x6 x7 (x9 ++ [(⟨bt230.1, bt230.2.1, bt230.2.2.1⟩ : S57)]) (wrap64 (x10 + 1))) else (none)) else (none)) else (none)) else (some (([] : List (S57)), bt230.2.2.2.2))))) else (none)) else (none)))) else (if (x7.length : Int) = 0 then (none) else (if 0 ≤ (Int.tmod (wrap64 (x10 - (x6.length : Int))) (x7.length : Int)) then (if (Int.tmod (wrap64 (x10 - (x6.length : Int))) (x7.length : Int)) < (x7.length : Int) then (if (x9.length : Int) = 1000 then (some (([] : List (S57)), 3)) else ((carillonref01_take.f k (rd x7 (Int.tmod (wrap64 (x10 - (x6.length : Int))) (x7.length : Int))) x1).bind fun bt240 => (if bt240.2.2.2.2 = 0 then (if x9.length < 4398046511104 then (if 0 ≤ bt240.2.2.2.1 then (if bt240.2.2.2.1 ≤ (x1.size : Int) then (carillonref01_Decode.l0 k (x1.extract (bt240.2.2.2.1 : Int).toNat x1.size) x6 x7 (x9 ++ [(⟨bt240.1, bt240.2.1, bt240.2.2.1⟩ : S57)]) (wrap64 (x10 + 1))) else (none)) else (none)) else (none)) else (some (([] : List (S57)), bt240.2.2.2.2))))) else (none)) else (none)))) else (if x1.toList = ([] : List UInt8) then (some (x9, 0)) else (some (([] : List (S57)), 10)))) := by
  simp only [carillonref01_Decode.l0, carillonref01_Decode.j1, carillonref01_Decode.j2, carillonref01_Decode.j3]
  by_cases h1 : x10 < (x6.length : Int)
  · have h1' : ¬ x10 ≥ (x6.length : Int) := by omega
    simp [h1, h1']
  · have h1' : x10 ≥ (x6.length : Int) := by omega
    by_cases h2 : (x7.length : Int) > 0
    · have h2' : ¬ (x7.length : Int) = 0 := by omega
      by_cases h3 : (Int.tmod (wrap64 (x10 - (x6.length : Int))) (x7.length : Int)) = 0
      · by_cases h4 : x1.toList = ([] : List UInt8)
        · simp only [if_neg h1, if_pos h1', if_pos h2, if_neg h2', if_pos h3, if_pos h4, decide_eq_true h2, if_true, h4]
          rfl
        · have h4' : (x1.toList == ([] : List UInt8)) = false := by simpa using h4
          simp only [if_neg h1, if_pos h1', if_pos h2, if_neg h2', if_pos h3, if_neg h4, decide_eq_true h2, if_true, h4', Bool.false_eq_true, if_false]
      · simp only [if_neg h1, if_pos h1', if_pos h2, if_neg h2', if_neg h3, decide_eq_true h2, if_true, Bool.false_eq_true, if_false]
    · simp only [if_neg h1, if_neg h2, decide_eq_false h2, Bool.false_eq_true, if_false]
theorem rdec_is (a b : List Int) (ha : a.length ≤ 1048576) (hb : b.length ≤ 1048576) (ka : ∀ x ∈ a, 1 ≤ x ∧ x ≤ 4) (kb : ∀ x ∈ b, 1 ≤ x ∧ x ≤ 4) (n : Nat) : ∀ (out : List S57) (s : ByteArray) (k : Nat), out.length + n = 1000 → (b = [] → out.length ≤ a.length) → s.size ≤ 140737488351232 → 4 * n + 12 ≤ k →
    carillonref01_Decode.l0 k s a b out (out.length : Int) = some (decS b n (curR a b out.length) out s) := by
  induction n with
  | zero =>
    intro out s k ho hx hs hk
    obtain ⟨k, rfl⟩ : ∃ m, k = m + 4 := ⟨k - 4, by omega⟩
    by_cases h : out.length < a.length
    · rw [rl0_old]
      rw [if_pos (by omega), if_neg (by omega), if_pos (by omega), if_pos (by omega), curR_head a b _ h]
      rfl
    · by_cases hb0 : b = []
      · have hx' := hx hb0
        subst hb0
        have e : out.length = a.length := by omega
        rw [rl0_old]
        rw [if_neg (by omega), if_neg (by simp)]
        have : curR a [] out.length = [] := by unfold curR; rw [if_neg (by omega), show out.length - a.length = 0 by omega]; simp
        rw [this]
        simp only [decS, nextK]
        split <;> rfl
      · have hbl : 0 < b.length := List.length_pos_iff.2 hb0
        have ht := curR_tail a b out.length (by omega) hbl
        have hm : Int.tmod (wrap64 ((out.length : Int) - (a.length : Int))) (b.length : Int) = (((out.length - a.length) % b.length : Nat) : Int) := by
          rw [wrap64_id (by omega) (by omega), show (out.length : Int) - (a.length : Int) = ((out.length - a.length : Nat) : Int) by omega]
          rfl
        have hml := Nat.mod_lt (out.length - a.length) hbl
        rw [rl0_old]
        rw [if_neg (by omega), if_pos (by omega), if_pos (by omega), if_neg (by omega), hm]
        by_cases g : (out.length - a.length) % b.length = 0
        · rw [if_pos (by omega)]
          have : curR a b out.length = [] := by unfold curR; rw [if_neg (by omega), if_pos g]
          rw [this]
          obtain ⟨b0, bs, rfl⟩ : ∃ b0 bs, b = b0 :: bs := by cases b with | nil => exact absurd rfl hb0 | cons x xs => exact ⟨x, xs, rfl⟩
          simp only [decS, nextK]
          by_cases gs : s.toList = ([] : List UInt8)
          · rw [if_pos gs, if_pos gs]
          · rw [if_neg gs, if_neg gs, if_pos (by omega), if_pos (by omega), if_pos (by omega)]
        · rw [if_neg (by omega), if_pos (by omega), if_pos (by omega), if_pos (by omega)]
          have : curR a b out.length = b.drop ((out.length - a.length) % b.length) := by unfold curR; rw [if_neg (by omega), if_neg g]
          rw [this, ht]
          rfl
  | succ n ih =>
    intro out s k ho hx hs hk
    obtain ⟨k, rfl⟩ : ∃ m, k = m + 4 := ⟨k - 4, by omega⟩
    have ew : wrap64 ((out.length : Int) + 1) = ((out.length + 1 : Nat) : Int) := by rw [wrap64_id] <;> omega
    by_cases h : out.length < a.length
    · have hk1 := ka _ (List.getElem_mem h)
      rw [rl0_old]
      rw [if_pos (by omega), if_neg (by omega), if_pos (by omega), if_neg (by omega), rd_nat a _ h, ew, arm_is k (by omega) _ s out hk1.1 hk1.2 hs (by omega) (fun s' o' => carillonref01_Decode.l0 k s' a b o' ((out.length + 1 : Nat) : Int)), curR_head a b _ h]
      simp only [decS, nextK]
      cases hts : takeS a[out.length] s with
      | error e => rfl
      | ok p =>
        obtain ⟨x, s'⟩ := p
        have h1 := take_size hts
        have h2 := ih (out ++ [x]) s' k (by simp; omega) (by intro hb; simp; omega) (by omega) (by omega)
        rw [List.length_append, List.length_singleton] at h2
        exact h2
    · by_cases hb0 : b = []
      · have hx' := hx hb0
        subst hb0
        have e : out.length = a.length := by omega
        rw [rl0_old]
        rw [if_neg (by omega), if_neg (by simp)]
        have : curR a [] out.length = [] := by unfold curR; rw [if_neg (by omega), show out.length - a.length = 0 by omega]; simp
        rw [this]
        simp only [decS, nextK]
        split <;> rfl
      · have hbl : 0 < b.length := List.length_pos_iff.2 hb0
        have ht := curR_tail a b out.length (by omega) hbl
        have hm : Int.tmod (wrap64 ((out.length : Int) - (a.length : Int))) (b.length : Int) = (((out.length - a.length) % b.length : Nat) : Int) := by
          rw [wrap64_id (by omega) (by omega), show (out.length : Int) - (a.length : Int) = ((out.length - a.length : Nat) : Int) by omega]
          rfl
        have hml := Nat.mod_lt (out.length - a.length) hbl
        have hk1 := kb _ (List.getElem_mem hml)
        rw [rl0_old]
        rw [if_neg (by omega), if_pos (by omega), if_pos (by omega), if_neg (by omega), hm]
        by_cases g : (out.length - a.length) % b.length = 0
        · rw [if_pos (by omega)]
          have e0 : curR a b out.length = [] := by unfold curR; rw [if_neg (by omega), if_pos g]
          rw [e0]
          have hn : nextK b [] s out = (if s.toList = ([] : List UInt8) then .inl (out, 0) else .inr (b[(out.length - a.length) % b.length]'hml, curR a b (out.length + 1))) := by
            have : b = b[(out.length - a.length) % b.length]'hml :: curR a b (out.length + 1) := by rw [← ht, g, List.drop_zero]
            obtain ⟨b0, bs, hbb⟩ : ∃ b0 bs, b = b0 :: bs := by cases b with | nil => exact absurd rfl hb0 | cons x xs => exact ⟨x, xs, rfl⟩
            have e1 := hbb.symm.trans this
            injection e1 with e2 e3
            rw [← e2, ← e3]
            conv => lhs; rw [hbb]
            rfl
          simp only [decS]
          rw [hn]
          by_cases gs : s.toList = ([] : List UInt8)
          · rw [if_pos gs, if_pos gs]
          · rw [if_neg gs, if_neg gs, if_pos (by omega), if_pos (by omega), if_neg (by omega), rd_nat b _ hml, ew, arm_is k (by omega) _ s out hk1.1 hk1.2 hs (by omega) (fun s' o' => carillonref01_Decode.l0 k s' a b o' ((out.length + 1 : Nat) : Int))]
            simp only
            cases hts : takeS (b[(out.length - a.length) % b.length]'hml) s with
            | error e => rfl
            | ok p =>
              obtain ⟨x, s'⟩ := p
              have h1 := take_size hts
              have h2 := ih (out ++ [x]) s' k (by simp; omega) (fun hb => absurd hb hb0) (by omega) (by omega)
              rw [List.length_append, List.length_singleton] at h2
              exact h2
        · have e0 : curR a b out.length = b.drop ((out.length - a.length) % b.length) := by unfold curR; rw [if_neg (by omega), if_neg g]
          rw [if_neg (by omega), if_pos (by omega), if_pos (by omega), if_neg (by omega), rd_nat b _ hml, ew, arm_is k (by omega) _ s out hk1.1 hk1.2 hs (by omega) (fun s' o' => carillonref01_Decode.l0 k s' a b o' ((out.length + 1 : Nat) : Int)), e0, ht]
          simp only [decS, nextK]
          cases hts : takeS (b[(out.length - a.length) % b.length]'hml) s with
          | error e => rfl
          | ok p =>
            obtain ⟨x, s'⟩ := p
            have h1 := take_size hts
            have h2 := ih (out ++ [x]) s' k (by simp; omega) (fun hb => absurd hb hb0) (by omega) (by omega)
            rw [List.length_append, List.length_singleton] at h2
            exact h2
theorem parse_kinds {L : List UInt8} {a b : List Int} (h : parseS L = some (a, b)) : (∀ x ∈ a, 1 ≤ x ∧ x ≤ 4) ∧ (∀ x ∈ b, 1 ≤ x ∧ x ≤ 4) ∧ a.length ≤ L.length ∧ b.length ≤ L.length := by
  have key : ∀ l : List UInt8, l.all letB = true → ∀ x ∈ l.map kindI, 1 ≤ x ∧ x ≤ 4 := by
    intro l hl x hx
    obtain ⟨c, hc, rfl⟩ := List.mem_map.1 hx
    have := kindI_range c
    exact ⟨(letB_iff c).1 (List.all_eq_true.1 hl c hc), by omega⟩
  by_cases h4 : (42 : UInt8) ∈ L
  · obtain ⟨hd, tl, h1, h2⟩ := cut_at _ _ h4
    rw [h1, parse_star hd tl h2] at h
    split at h
    · rename_i g
      cases h
      rw [Bool.and_eq_true, List.all_append, Bool.and_eq_true] at g
      refine ⟨key hd g.1.1, key tl g.1.2, ?_, ?_⟩ <;> rw [h1] <;> simp <;> omega
    · cases h
  · rw [parse_plain _ h4] at h
    split at h
    · rename_i g
      cases h
      exact ⟨key L g, by simp, by simp, by simp⟩
    · cases h
/-- The document's Decode, at every shape (of a bounded length) and text. -/
theorem rdecode_is (a0 s : ByteArray) (hz : a0.size ≤ 1048576) (hs : s.size ≤ 140737488351232) (k : Nat) (hk : 1048577 ≤ k) : carillonref01_Decode.f k a0 s = some (decodeS a0.data.toList s) := by
  unfold carillonref01_Decode.f decodeS
  have hki := kinds_is a0 hz k hk
  cases hp : parseS a0.data.toList with
  | none =>
    rw [hp] at hki
    obtain ⟨a, b, he⟩ := hki
    rw [he]
    rfl
  | some p =>
    obtain ⟨a, b⟩ := p
    rw [hp] at hki
    simp only at hki ⊢
    rw [hki]
    obtain ⟨ka, kb, la, lb⟩ := parse_kinds hp
    rw [data_len] at la lb
    have := rdec_is a b (by omega) (by omega) ka kb 1000 [] s k (by simp) (by simp) hs (by omega)
    have e0 : curR a b 0 = a := by
      unfold curR
      by_cases g : 0 < a.length
      · rw [if_pos g, List.drop_zero]
      · rw [if_neg g, show 0 - a.length = 0 by omega, if_pos (by simp)]
        exact (List.length_eq_zero_iff.1 (by omega)).symm
    simp only [Option.bind_some, if_true]
    rw [List.length_nil, e0] at this
    exact this
theorem num_loop (m : Nat) : ∀ (k : Nat) (v : Int) (tl : List Int), 0 ≤ v → v < 18446744073709551616 → m + tl.length ≤ 8 → carillonref01_num.l0 (k + m + 1) v (List.replicate m 0 ++ tl) ((m : Int) - 1) = some (strOfNums (beI v m ++ tl)) := by
  induction m with
  | zero =>
    intro k v tl _ _ _
    simp only [carillonref01_num.l0]
    rw [if_neg (by omega)]
    simp [beI]
  | succ m ih =>
    intro k v tl h0 h1 hm
    rw [show k + (m + 1) + 1 = (k + m + 1) + 1 by omega, carillonref01_num.l0, if_pos (by omega), if_pos (by omega), if_pos (by simp; omega)]
    have e1 : wrap64 (((m + 1 : Nat) : Int) - 1 - 1) = (m : Int) - 1 := by rw [wrap64_id] <;> omega
    have e2 : IntKind.u64.wrap (Int.tdiv v 256) = v / 256 := by
      rw [Int.tdiv_eq_ediv_of_nonneg h0]
      show (v / 256) % 18446744073709551616 = _
      omega
    have e3 : (Int.tmod v 256) % 256 = v % 256 := by rw [Int.tmod_eq_emod_of_nonneg h0]; omega
    have e4 : (List.replicate (m + 1) (0 : Int) ++ tl).set (((m + 1 : Nat) : Int) - 1).toNat (v % 256) = List.replicate m 0 ++ (v % 256 :: tl) := by
      rw [show (((m + 1 : Nat) : Int) - 1).toNat = m by omega, List.replicate_succ', List.append_assoc, List.set_append]
      simp
    rw [e1, e2, e3, e4, ih k (v / 256) _ (by omega) (by omega) (by simp; omega), beI_snoc]
    simp
theorem num_f (v : Int) (m : Nat) (k : Nat) (h0 : 0 ≤ v) (h1 : v < 18446744073709551616) (hm : m ≤ 8) (hk : 10 ≤ k) : carillonref01_num.f k v (m : Int) = some (strOfNums (beI v m)) := by
  unfold carillonref01_num.f
  rw [if_pos (by omega), show ((m : Int)).toNat = m from rfl, if_pos (by omega), wrap64_id (by omega) (by omega)]
  have := num_loop m (k - m - 1) v [] h0 h1 (by simpa using hm)
  rw [show k - m - 1 + m + 1 = k by omega, List.append_nil, List.append_nil] at this
  exact this
theorem son_append (a b : List Int) : strOfNums (a ++ b) = strOfNums a ++ strOfNums b := by
  apply ba_eq
  rw [ByteArray.data_append, Array.toList_append, strOfNums_data, strOfNums_data, strOfNums_data, List.map_append]
theorem son_bytes (s : ByteArray) : strOfNums (bytesOf s) = s := by
  apply ba_eq
  rw [strOfNums_data]
  unfold bytesOf
  rw [List.map_map]
  conv => rhs; rw [← List.map_id s.data.toList]
  apply List.map_congr_left
  intro c _
  simp
theorem one_is (x : S57) (hx : WfI x) (k : Nat) (hk : 10 ≤ k) : carillonref01_one.f k x.f0 x.f1 x.f2 = some (match encOne x with
    | .error e => (⟨#[]⟩, e)
    | .ok l => (strOfNums l, 0)) := by
  obtain ⟨w0, w1, w2, w3, w4⟩ := hx
  unfold carillonref01_one.f encOne
  by_cases h4 : x.f0 = 4
  · have ew : carillonref01_width.f x.f0 = some 0 := by rw [h4]; rfl
    rw [ew, if_pos h4]
    simp only [Option.bind_some]
    rw [if_pos trivial, if_pos h4, if_neg (by decide)]
    by_cases h1 : x.f1 = 0
    · rw [if_pos h1, if_pos h1]
      by_cases hs : 100000 < x.f2.size
      · rw [if_pos (by omega), if_pos hs]
      · have eu : IntKind.u64.wrap (x.f2.size : Int) = (x.f2.size : Int) := by show (x.f2.size : Int) % 18446744073709551616 = _; omega
        rw [if_neg (by omega), if_neg hs, eu]
        have := num_f (x.f2.size : Int) 4 k (by omega) (by omega) (by decide) hk
        rw [show ((4 : Nat) : Int) = 4 from rfl] at this
        rw [this]
        simp only [Option.bind_some]
        rw [if_pos (by rw [strOfNums_size, beI_length]; omega), son_append, son_bytes]
    · rw [if_neg h1, if_neg h1]
  · rw [if_neg h4]
    by_cases hr : 1 ≤ x.f0 ∧ x.f0 ≤ 3
    · have ew : carillonref01_width.f x.f0 = some ((widthI x.f0 : Nat) : Int) ∧ 1 ≤ widthI x.f0 ∧ widthI x.f0 ≤ 8 := by
        have : x.f0 = 1 ∨ x.f0 = 2 ∨ x.f0 = 3 := by omega
        rcases this with h | h | h <;> rw [h] <;> exact ⟨rfl, by decide, by decide⟩
      obtain ⟨e1, e2, e3⟩ := ew
      rw [e1, if_pos hr]
      simp only [Option.bind_some]
      rw [if_neg (by omega), if_pos (by omega)]
      by_cases h2 : x.f2.toList = ([] : List UInt8)
      · rw [if_pos h2, if_pos h2]
        have en := num_f x.f1 (widthI x.f0) k w0 w1 e3 hk
        by_cases h8 : widthI x.f0 = 8
        · rw [if_neg (by omega), if_pos (.inl (by omega)), en]
          rfl
        · have es : shr .u64 x.f1 (wrap64 (8 * ((widthI x.f0 : Nat) : Int))) = x.f1 / 256 ^ widthI x.f0 := by
            rw [wrap64_id (by omega) (by omega)]
            unfold shr
            have : (8 * ((widthI x.f0 : Nat) : Int)).toNat = 8 * widthI x.f0 := by omega
            rw [this, Nat.min_eq_left (by show 8 * widthI x.f0 ≤ 64; omega), Int.pow_mul]
            rfl
          rw [if_pos (by omega), if_pos (by rw [wrap64_id] <;> omega), es]
          by_cases h0 : x.f1 / 256 ^ widthI x.f0 = 0
          · rw [if_pos h0, if_pos (.inr h0), en]
            rfl
          · rw [if_neg h0, if_neg (by rintro (h | h) <;> omega)]
      · rw [if_neg h2, if_neg h2]
    · have ew : carillonref01_width.f x.f0 = some 0 := by
        unfold carillonref01_width.f
        rw [if_neg (by omega), if_neg (by omega), if_neg (by omega)]
      rw [ew, if_neg hr]
      simp only [Option.bind_some]
      rw [if_pos trivial, if_neg h4]
theorem renc_loop (l : List S57) (hl : l.length ≤ 1000) (hw : ∀ x ∈ l, WfI x) (d : Nat) : ∀ (i : Nat) (acc : List Int) (k : Nat), i + d = l.length → acc.length ≤ i * 100004 → d + 12 ≤ k →
    carillonref01_Encode.l0 k l (strOfNums acc) (i : Int) = some (match encAll (l.drop i) with
      | .error e => (⟨#[]⟩, e)
      | .ok m => (strOfNums (acc ++ m), 0)) := by
  induction d with
  | zero =>
    intro i acc k hi ha hk
    obtain ⟨k, rfl⟩ : ∃ m, k = m + 1 := ⟨k - 1, by omega⟩
    simp only [carillonref01_Encode.l0]
    rw [if_neg (by omega), List.drop_of_length_le (by omega)]
    simp [encAll]
  | succ d ih =>
    intro i acc k hi ha hk
    obtain ⟨k, rfl⟩ : ∃ m, k = m + 1 := ⟨k - 1, by omega⟩
    have hlt : i < l.length := by omega
    have ew : wrap64 ((i : Int) + 1) = ((i + 1 : Nat) : Int) := by rw [wrap64_id] <;> omega
    rw [List.drop_eq_getElem_cons hlt]
    simp only [carillonref01_Encode.l0]
    have hx := hw _ (List.getElem_mem hlt)
    rw [if_pos (by omega), if_pos (by omega), rdT_nat l i hlt, ew, one_is _ hx k (by omega)]
    simp only [Option.bind_some, encAll]
    cases he : encOne l[i] with
    | error e =>
      simp only
      have : e ≠ 0 := by
        unfold encOne at he
        split at he
        · split at he
          · split at he
            · cases he; decide
            · cases he
          · cases he; decide
        · split at he
          · split at he
            · split at he
              · cases he
              · cases he; decide
            · cases he; decide
          · cases he; decide
      rw [if_neg this]
    | ok b =>
      have hb := encOne_len he
      simp only [if_true]
      rw [if_pos (by rw [strOfNums_size, strOfNums_size]; omega), ← son_append, ih (i + 1) (acc ++ b) k (by omega) (by simp; omega) (by omega)]
      cases encAll (l.drop (i + 1)) <;> simp
/-- The document's Encode, at every list of items. -/
theorem rencode_is (l : List S57) (hw : ∀ x ∈ l, WfI x) (k : Nat) (hk : 1012 ≤ k) : carillonref01_Encode.f k l = some (encS l) := by
  unfold carillonref01_Encode.f encS
  by_cases h : 1000 < l.length
  · rw [if_pos (by omega), if_pos h]
  · rw [if_neg (by omega), if_neg h]
    have := renc_loop l (by omega) hw l.length 0 [] k (by omega) (by simp) (by omega)
    rw [List.drop_zero] at this
    exact this
theorem rword_loop (s : ByteArray) (hs : s.size ≤ 140737488351232) (d : Nat) : ∀ (i k : Nat), i + d = s.size → d < k → carillonref14_Word.l0 k s (i : Int) = some ((s.data.toList.drop i).all letW && (decide (s.size ≠ 0) && decide (s.size ≤ 20))) := by
  induction d with
  | zero =>
    intro i k hi hk
    obtain ⟨k, rfl⟩ : ∃ q, k = q + 1 := ⟨k - 1, by omega⟩
    simp only [carillonref14_Word.l0]
    rw [if_neg (by omega), List.drop_of_length_le (by rw [data_len]; omega), List.all_nil, Bool.true_and]
    by_cases h : (s.size : Int) ≥ 1
    · rw [if_pos h, decide_eq_true (show s.size ≠ 0 by omega), Bool.true_and]
      apply congrArg some
      rw [decide_eq_decide]
      omega
    · rw [if_neg h, decide_eq_false (show ¬ s.size ≠ 0 by omega), Bool.false_and]
  | succ d ih =>
    intro i k hi hk
    obtain ⟨k, rfl⟩ : ∃ q, k = q + 1 := ⟨k - 1, by omega⟩
    have hl : i < s.data.toList.length := by rw [data_len]; omega
    simp only [carillonref14_Word.l0]
    rw [if_pos (by omega), if_pos (by omega), show wrap64 ((i : Int) + 1) = ((i + 1 : Nat) : Int) by unfold wrap64; omega, ih (i + 1) k (by omega) (by omega), bt_get s i (by omega)]
    rw [List.drop_eq_getElem_cons hl, List.all_cons, show s.data.toList.getD i 0 = s.data.toList[i] by rw [List.getD_eq_getElem?_getD, List.getElem?_eq_getElem hl]; rfl]
    generalize s.data.toList[i] = c
    have hw : letW c = true ↔ (97 ≤ c.toNat ∧ c.toNat ≤ 122) ∨ (48 ≤ c.toNat ∧ c.toNat ≤ 57) := by unfold letW; simp
    cases hc : letW c
    · have hn : ¬ ((97 ≤ c.toNat ∧ c.toNat ≤ 122) ∨ (48 ≤ c.toNat ∧ c.toNat ≤ 57)) := fun h => by rw [hw.2 h] at hc; cases hc
      rw [Bool.false_and, Bool.false_and]
      repeat' split
      all_goals first | rfl | omega
    · have hy := hw.1 hc
      rw [Bool.true_and]
      repeat' split
      all_goals first | rfl | omega
theorem rword_is (s : ByteArray) (hs : s.size ≤ 140737488351232) (k : Nat) (hk : s.size < k) : carillonref14_Word.f k s = some (wordB s) := by
  unfold carillonref14_Word.f
  have := rword_loop s hs s.size 0 k (by omega) hk
  rw [List.drop_zero] at this
  rw [show ((0 : Nat) : Int) = 0 from rfl] at this
  rw [this]
  unfold wordB
  rw [Bool.and_comm]
theorem word_nil {s : ByteArray} (h : s.toList = ([] : List UInt8)) : wordB s = false := by
  rw [ba_nil h]
  rfl
theorem rneed (k : Int) : match ruleV k with
    | none => ∃ t n p m, carillonref14_need.f k = some (t, n, p, m, false)
    | some (t, n, p, lo, hi) => ∃ m, carillonref14_need.f k = some (t, n, p, m, true) ∧ ∀ (q : Nat) (a1 a2 : ByteArray) (a3 : Int) (a4 a5 : ByteArray) (v a7 a8 : Int), -1 ≤ v → v ≤ 9007199254740991 → carillonref14_Right.j2 (q + 1) m false k a1 a2 a3 a4 a5 v a7 a8 = some (decide (lo ≤ v) && decide (v ≤ hi)) := by
  have ar : ∀ (lo hi v : Int) (x : Option Bool), (x = some (decide (lo ≤ v ∧ v ≤ hi))) → x = some (decide (lo ≤ v) && decide (v ≤ hi)) := by
    intro lo hi v x h
    rw [h, Bool.decide_and]
  by_cases h1 : k = 1
  · subst h1; exact ⟨false, rfl, fun q a1 a2 a3 a4 a5 v a7 a8 _ _ => ar _ _ _ _ (congrArg some (by show (v == 0) = _; rw [Bool.eq_iff_iff]; simp; omega))⟩
  by_cases h2 : k = 2
  · subst h2; exact ⟨false, rfl, fun q a1 a2 a3 a4 a5 v a7 a8 _ _ => ar _ _ _ _ (congrArg some (by show (v == 0) = _; rw [Bool.eq_iff_iff]; simp; omega))⟩
  by_cases h3 : k = 3
  · subst h3; exact ⟨true, rfl, fun q a1 a2 a3 a4 a5 v a7 a8 p1 p2 => ar _ _ _ _ (congrArg some (decide_eq_true (show -1 ≤ v ∧ v ≤ 9007199254740991 from ⟨p1, p2⟩)).symm)⟩
  by_cases h4 : k = 4
  · subst h4; exact ⟨false, rfl, fun q a1 a2 a3 a4 a5 v a7 a8 _ _ => ar _ _ _ _ (congrArg some (by show (v == 0) = _; rw [Bool.eq_iff_iff]; simp; omega))⟩
  by_cases h5 : k = 5
  · subst h5; exact ⟨true, rfl, fun q a1 a2 a3 a4 a5 v a7 a8 _ _ => ar _ _ _ _ (by show (if v ≥ 1 then some (decide (v ≤ 50)) else some false) = some (decide ((1 : Int) ≤ v ∧ v ≤ 50)); split <;> (apply congrArg some; rw [Bool.eq_iff_iff]; simp; omega))⟩
  have gr : ∀ (v : Int), -1 ≤ v → v ≤ 9007199254740991 → some (decide (v ≥ 0)) = some (decide ((0 : Int) ≤ v ∧ v ≤ 9007199254740991)) := fun v p1 p2 => by
    apply congrArg some
    rw [decide_eq_decide]
    omega
  by_cases h6 : k = 6
  · subst h6; exact ⟨true, rfl, fun q a1 a2 a3 a4 a5 v a7 a8 p1 p2 => ar _ _ _ _ (gr v p1 p2)⟩
  by_cases h7 : k = 7
  · subst h7; exact ⟨true, rfl, fun q a1 a2 a3 a4 a5 v a7 a8 p1 p2 => ar _ _ _ _ (gr v p1 p2)⟩
  by_cases h8 : k = 8
  · subst h8; exact ⟨true, rfl, fun q a1 a2 a3 a4 a5 v a7 a8 p1 p2 => ar _ _ _ _ (gr v p1 p2)⟩
  by_cases h9 : k = 9
  · subst h9; exact ⟨true, rfl, fun q a1 a2 a3 a4 a5 v a7 a8 p1 p2 => ar _ _ _ _ (gr v p1 p2)⟩
  have sv : ∀ (v : Int), (if v ≥ 0 then some (decide (v < 7)) else some false) = some (decide ((0 : Int) ≤ v ∧ v ≤ 6)) := fun v => by
    split <;> (apply congrArg some; rw [Bool.eq_iff_iff]; simp; omega)
  by_cases h10 : k = 10
  · subst h10; exact ⟨true, rfl, fun q a1 a2 a3 a4 a5 v a7 a8 _ _ => ar _ _ _ _ (sv v)⟩
  by_cases h11 : k = 11
  · subst h11; exact ⟨true, rfl, fun q a1 a2 a3 a4 a5 v a7 a8 _ _ => ar _ _ _ _ (sv v)⟩
  have hr : ruleV k = none := by
    unfold ruleV
    rw [if_neg h1, if_neg h2, if_neg h3, if_neg h4, if_neg h5, if_neg h6, if_neg h7, if_neg h8, if_neg h9, if_neg h10, if_neg h11]
  rw [hr]
  refine ⟨false, false, false, false, ?_⟩
  unfold carillonref14_need.f
  rw [if_neg h1, if_neg h2, if_neg h3, if_neg h4, if_neg h5, if_neg h6, if_neg h7, if_neg h8, if_neg h9, if_neg h10, if_neg h11]
theorem nm_chk (n b z : Bool) (y : List UInt8) (w : y = [] → b = false) : (if (n != b) = true then some (!true && z) else if n = true then some (!false && z) else some (!(y != ([] : List UInt8)) && z)) = some ((if n = true then b else (y == ([] : List UInt8))) && z) := by
  cases n <;> cases b
  · simp [bne]
  · have : (y == ([] : List UInt8)) = false := by
      cases y
      · exact absurd (w rfl) (by decide)
      · rfl
    simp [this]
  · rfl
  · rfl
theorem nm_out (t a z : Bool) (x : List UInt8) (w : x = [] → a = false) (I : Option Bool) (r : Bool) (hI : I = some r) : (if (t != a) = true then some (!true && z) else if t = true then I else if x = [] then I else some (!true && z)) = some ((if t = true then a else (x == ([] : List UInt8))) && r) := by
  subst hI
  cases t <;> cases a
  · cases x
    · rfl
    · rfl
  · have : (x == ([] : List UInt8)) = false := by
      cases x
      · exact absurd (w rfl) (by decide)
      · rfl
    rw [this]
    rfl
  · rfl
  · rfl
theorem rright_is (c : CM) (h1 : c.topic.size ≤ 140737488351232) (h2 : c.name.size ≤ 140737488351232) (k : Nat) (hk : c.topic.size + c.name.size + 10 ≤ k) : carillonref14_Right.f k c.kind c.topic c.name c.seq c.key c.value c.n c.node c.ask = some (rightB c) := by
  obtain ⟨k, rfl⟩ : ∃ q, k = q + 3 := ⟨k - 3, by omega⟩
  have hbad : ∀ t n p m, carillonref14_Right.j0 (k + 3) t n p m true c.kind c.topic c.name c.seq c.key c.value c.n c.node c.ask = some false := fun t n p m => by
    simp only [carillonref14_Right.j0]
    rw [if_pos trivial]
  have hno : (rightB c = true → False) → rightB c = false := fun h => by
    cases hr : rightB c
    · rfl
    · exact (h hr).elim
  have hn := rneed c.kind
  unfold carillonref14_Right.f
  cases hr : ruleV c.kind with
  | none =>
    rw [hr] at hn
    obtain ⟨t, n, p, m, hn⟩ := hn
    rw [hn]
    simp only [Option.bind_some]
    rw [if_neg (by decide), hbad]
    unfold rightB
    rw [hr]
  | some q =>
    obtain ⟨t, n, p, lo, hi⟩ := q
    rw [hr] at hn
    obtain ⟨m, hn, hj⟩ := hn
    rw [hn]
    simp only [Option.bind_some]
    rw [if_pos trivial]
    by_cases c1 : c.node < 0
    · rw [if_pos c1, hbad, hno (fun h => by have := (right_ok h).node; omega)]
    rw [if_neg c1]
    by_cases c2 : c.node > 6
    · rw [if_pos c2, hbad, hno (fun h => by have := (right_ok h).node; omega)]
    rw [if_neg c2]
    by_cases c3 : c.ask < 0
    · rw [if_pos c3, hbad, hno (fun h => by have := (right_ok h).ask; omega)]
    rw [if_neg c3]
    by_cases c4 : c.ask > 9007199254740991
    · rw [if_pos c4, hbad, hno (fun h => by have := (right_ok h).ask; omega)]
    rw [if_neg c4]
    by_cases c5 : c.seq < 0
    · rw [if_pos c5, hbad, hno (fun h => by have := (right_ok h).seq; omega)]
    rw [if_neg c5]
    by_cases c6 : c.seq > 9007199254740991
    · rw [if_pos c6, hbad, hno (fun h => by have := (right_ok h).seq; omega)]
    rw [if_neg c6]
    by_cases c7 : c.n < -1
    · rw [if_pos c7, hbad, hno (fun h => by have := (right_ok h).n; omega)]
    rw [if_neg c7]
    by_cases c8 : c.n > 9007199254740991
    · rw [decide_eq_true c8, hbad, hno (fun h => by have := (right_ok h).n; omega)]
    rw [decide_eq_false c8]
    have hR : rightB c = (namedB c.topic t && namedB c.name n && (decide (lo ≤ c.n) && decide (c.n ≤ hi)) && (if p = true then decide (c.key.size ≤ 100) && decide (c.value.size ≤ 1000) else decide (c.seq = 0) && (c.key.toList == ([] : List UInt8)) && (c.value.toList == ([] : List UInt8)))) := by
      unfold rightB
      rw [hr]
      dsimp only
      rw [decide_eq_true (show 0 ≤ c.node by omega), decide_eq_true (show 0 ≤ c.ask by omega), decide_eq_true (show 0 ≤ c.seq by omega), decide_eq_true (show c.node < 7 by omega), decide_eq_true (show c.ask ≤ 9007199254740991 by omega), decide_eq_true (show c.seq ≤ 9007199254740991 by omega)]
      simp only [Bool.and_true]
    rw [hR]
    have e2 : ∀ x, carillonref14_Right.j2 (k + 1) m x c.kind c.topic c.name c.seq c.key c.value c.n c.node c.ask = some (!x && (decide (lo ≤ c.n) && decide (c.n ≤ hi))) := fun x => by
      cases x
      · rw [hj k _ _ _ _ _ _ _ _ (by omega) (by omega), Bool.not_false, Bool.true_and]
      · simp only [carillonref14_Right.j2]
        rw [if_pos trivial]
        rfl
    have e1 : ∀ x, carillonref14_Right.j1 (k + 2) p m x c.kind c.topic c.name c.seq c.key c.value c.n c.node c.ask = some (!x && ((decide (lo ≤ c.n) && decide (c.n ≤ hi)) && (if p = true then decide (c.key.size ≤ 100) && decide (c.value.size ≤ 1000) else decide (c.seq = 0) && (c.key.toList == ([] : List UInt8)) && (c.value.toList == ([] : List UInt8))))) := fun x => by
      cases x
      case true =>
        simp only [carillonref14_Right.j1]
        rw [if_pos trivial]
        rfl
      simp only [carillonref14_Right.j1, e2]
      rw [if_neg (by decide)]
      generalize (decide (lo ≤ c.n) && decide (c.n ≤ hi)) = z
      cases p
      · rw [if_neg (show ¬ (false = true) by decide), if_neg (show ¬ (false = true) by decide)]
        by_cases g1 : c.seq = 0
        case neg => rw [if_neg g1, decide_eq_false g1]; simp
        rw [if_pos g1, decide_eq_true g1]
        by_cases g2 : c.key.toList = ([] : List UInt8)
        case neg => rw [if_neg g2, beq_eq_false_iff_ne.mpr g2]; simp
        rw [if_pos g2, beq_iff_eq.mpr g2]
        by_cases g3 : c.value.toList = ([] : List UInt8)
        case neg => rw [if_neg g3, beq_eq_false_iff_ne.mpr g3]; simp
        have z2 := size_nil (beq_iff_eq.mpr g2)
        have z3 := size_nil (beq_iff_eq.mpr g3)
        rw [if_pos g3, beq_iff_eq.mpr g3, if_neg (by omega), decide_eq_false (by omega)]
        simp
      · rw [if_pos (show true = true from rfl), if_pos (show true = true from rfl)]
        by_cases g1 : (c.key.size : Int) > 100
        · rw [if_pos g1, decide_eq_false (show ¬ c.key.size ≤ 100 by omega)]; simp
        rw [if_neg g1, decide_eq_true (show c.key.size ≤ 100 by omega)]
        by_cases g2 : (c.value.size : Int) > 1000
        · rw [decide_eq_true g2, decide_eq_false (show ¬ c.value.size ≤ 1000 by omega)]; simp
        rw [decide_eq_false g2, decide_eq_true (show c.value.size ≤ 1000 by omega)]
        simp
    simp only [carillonref14_Right.j0, e1]
    rw [if_neg (by decide), rword_is c.topic h1 _ (by omega), rword_is c.name h2 _ (by omega)]
    simp only [Option.bind_some]
    have hz : (namedB c.topic t && namedB c.name n && (decide (lo ≤ c.n) && decide (c.n ≤ hi)) && (if p = true then decide (c.key.size ≤ 100) && decide (c.value.size ≤ 1000) else decide (c.seq = 0) && (c.key.toList == ([] : List UInt8)) && (c.value.toList == ([] : List UInt8)))) = (namedB c.topic t && (namedB c.name n && ((decide (lo ≤ c.n) && decide (c.n ≤ hi)) && (if p = true then decide (c.key.size ≤ 100) && decide (c.value.size ≤ 1000) else decide (c.seq = 0) && (c.key.toList == ([] : List UInt8)) && (c.value.toList == ([] : List UInt8)))))) := by
      simp only [Bool.and_assoc]
    rw [hz]
    generalize ((decide (lo ≤ c.n) && decide (c.n ≤ hi)) && (if p = true then decide (c.key.size ≤ 100) && decide (c.value.size ≤ 1000) else decide (c.seq = 0) && (c.key.toList == ([] : List UInt8)) && (c.value.toList == ([] : List UInt8)))) = z
    have w1 := @word_nil c.topic
    have w2 := @word_nil c.name
    unfold namedB
    generalize wordB c.topic = a at *
    generalize wordB c.name = b at *
    generalize c.topic.toList = x at *
    generalize c.name.toList = y at *
    exact nm_out t a z x w1 _ _ (nm_chk n b z y w2)
theorem renc14_is (c : CM) (h1 : c.topic.size ≤ 140737488351232) (h2 : c.name.size ≤ 140737488351232) (k : Nat) (hk : c.topic.size + c.name.size + 1100 ≤ k) : carillonref14_Encode.f k c.kind c.topic c.name c.seq c.key c.value c.n c.node c.ask = some (if rightB c = true then (cText c, true) else (⟨#[]⟩, false)) := by
  unfold carillonref14_Encode.f
  rw [rright_is c h1 h2 k (by omega), Option.bind_some]
  cases h : rightB c
  · simp
  · have ho := right_ok h
    have e1 := wrapU64 (show 0 ≤ c.kind by have := ho.kind; omega) (by have := ho.kind; omega)
    have e2 := wrapU64 (show 0 ≤ c.seq by have := ho.seq; omega) (by have := ho.seq; omega)
    have e3 : wrap64 (c.n + 1) = c.n + 1 := wrap64_id (by have := ho.n; omega) (by have := ho.n; omega)
    have e4 := wrapU64 (show 0 ≤ c.n + 1 by have := ho.n; omega) (by have := ho.n; omega)
    have e5 := wrapU64 (show 0 ≤ c.node by have := ho.node; omega) (by have := ho.node; omega)
    have e6 := wrapU64 (show 0 ≤ c.ask by have := ho.ask; omega) (by have := ho.ask; omega)
    have hE : carillonref01_Encode.f k (cItems c) = some (cText c, 0) := by
      rw [rencode_is _ (citems_wf ho) k (by omega), encS_of (citems_enc ho) (by rw [citems_len]; omega)]
      rfl
    unfold cItems at hE
    rw [if_pos rfl, if_pos rfl]
    simp only [carillonref14_small.f, carillonref14_text.f, carillonref14_long.f, Option.bind_some, e1, e2, e3, e4, e5, e6]
    rw [hE]
    rfl
theorem rdec14_is (b : ByteArray) (hb : b.size ≤ 140737488351232) (k : Nat) (hk : 1248600 ≤ k) : carillonref14_Decode.f k b = some (tupC (cmdV b).1 (cmdV b).2) := by
  unfold carillonref14_Decode.f
  rw [rdecode_is _ b (by decide) hb k (by omega)]
  simp only [Option.bind_some]
  obtain ⟨k, rfl⟩ : ∃ m, k = m + 1 := ⟨k - 1, by omega⟩
  have hbad : ∀ l, carillonref14_Decode.j0 (k + 1) l true = some (tupC zC 10) := fun l => by
    simp only [carillonref14_Decode.j0]
    rw [if_pos trivial]
    rfl
  show (if (decodeS Lb b).2 = 0 then _ else _) = _
  by_cases h : (decodeS Lb b).2 = 0
  case neg =>
    unfold cmdV
    rw [if_neg h, if_neg h]
    rfl
  obtain ⟨l, hd⟩ : ∃ l, decodeS Lb b = (l, 0) := ⟨_, Prod.ext rfl h⟩
  obtain ⟨a, t, n, s, y, v, m, d, q, rfl, ha, hs, hm, hdd, hq, hy, hv, e0, he0, hbe⟩ := cmd_items (by omega) hd
  have htz : t.size ≤ 100000 ∧ n.size ≤ 100000 := by
    obtain ⟨a1, e1⟩ := encAll_each _ _ he0 ⟨4, 0, t⟩ (by simp)
    obtain ⟨a2, e2⟩ := encAll_each _ _ he0 ⟨4, 0, n⟩ (by simp)
    obtain ⟨t1, g1, z1⟩ := item4 e1 rfl
    obtain ⟨t2, g2, z2⟩ := item4 e2 rfl
    injection g1 with _ _ g1
    injection g2 with _ _ g2
    rw [g1, g2]
    exact ⟨z1, z2⟩
  have hrv : cmdV b = if rightB ⟨a, t, n, s, y, v, m - 1, d, q⟩ = true then (⟨a, t, n, s, y, v, m - 1, d, q⟩, 0) else (zC, 10) := by
    unfold cmdV
    rw [hd]
    rfl
  rw [show decodeS ((⟨#[98, 116, 116, 108, 116, 116, 108, 98, 108]⟩ : ByteArray).data.toList) b = (itemsC a t n s y v m d q, 0) from hd, hrv]
  dsimp only
  have r0 : rd_T57 (itemsC a t n s y v m d q) 0 = ⟨1, a, ⟨#[]⟩⟩ := rfl
  have r1 : rd_T57 (itemsC a t n s y v m d q) 1 = ⟨4, 0, t⟩ := rfl
  have r2 : rd_T57 (itemsC a t n s y v m d q) 2 = ⟨4, 0, n⟩ := rfl
  have r3 : rd_T57 (itemsC a t n s y v m d q) 3 = ⟨3, s, ⟨#[]⟩⟩ := rfl
  have r4 : rd_T57 (itemsC a t n s y v m d q) 4 = ⟨4, 0, y⟩ := rfl
  have r5 : rd_T57 (itemsC a t n s y v m d q) 5 = ⟨4, 0, v⟩ := rfl
  have r6 : rd_T57 (itemsC a t n s y v m d q) 6 = ⟨3, m, ⟨#[]⟩⟩ := rfl
  have r7 : rd_T57 (itemsC a t n s y v m d q) 7 = ⟨1, d, ⟨#[]⟩⟩ := rfl
  have r8 : rd_T57 (itemsC a t n s y v m d q) 8 = ⟨3, q, ⟨#[]⟩⟩ := rfl
  have hl : (itemsC a t n s y v m d q).length = 9 := rfl
  clear hbe he0
  generalize itemsC a t n s y v m d q = L at r0 r1 r2 r3 r4 r5 r6 r7 r8 hl ⊢
  have hnot : ¬ (s ≤ 9007199254740991 ∧ m - 1 ≤ 9007199254740991 ∧ q ≤ 9007199254740991) → rightB ⟨a, t, n, s, y, v, m - 1, d, q⟩ = false := fun hn => by
    cases hr : rightB ⟨a, t, n, s, y, v, m - 1, d, q⟩
    · rfl
    · have ho := right_ok hr
      exact absurd ⟨ho.seq.2, ho.n.2, ho.ask.2⟩ hn
  rw [if_pos rfl, if_pos (by rw [hl]; decide), r3, r6, r8]
  dsimp only
  by_cases c0 : s > 9007199254740991
  · rw [if_pos c0, hbad, hnot (fun h => absurd h.1 (by omega))]; rfl
  rw [if_neg c0, if_pos (by rw [hl]; decide)]
  by_cases c1 : m > 9007199254740992
  · rw [if_pos c1, hbad, hnot (fun h => absurd h.2.1 (by omega))]; rfl
  rw [if_neg c1, if_pos (by rw [hl]; decide)]
  by_cases c2 : q > 9007199254740991
  · rw [decide_eq_true c2, hbad, hnot (fun h => absurd h.2.2 (by omega))]; rfl
  rw [decide_eq_false c2]
  simp only [carillonref14_Decode.j0]
  rw [if_neg (by decide), if_pos (by rw [hl]; decide), if_pos (by rw [hl]; decide), if_pos (by rw [hl]; decide), if_pos (by rw [hl]; decide), if_pos (by rw [hl]; decide), if_pos (by rw [hl]; decide), if_pos (by rw [hl]; decide), if_pos (by rw [hl]; decide), if_pos (by rw [hl]; decide)]
  rw [r0, r1, r2, r3, r4, r5, r6, r7, r8]
  dsimp only
  rw [show wrap64 a = a by unfold wrap64; omega, show wrap64 s = s by unfold wrap64; omega, show wrap64 m = m by unfold wrap64; omega, show wrap64 (m - 1) = m - 1 by unfold wrap64; omega, show wrap64 d = d by unfold wrap64; omega, show wrap64 q = q by unfold wrap64; omega]
  rw [rright_is ⟨a, t, n, s, y, v, m - 1, d, q⟩ (by dsimp only; omega) (by dsimp only; omega) k (by dsimp only; omega)]
  simp only [Option.bind_some]
  cases rightB ⟨a, t, n, s, y, v, m - 1, d, q⟩
  · simp only [Bool.false_eq_true, if_false]
    rfl
  · simp only [if_true]
    rfl
theorem ref_bits (x1 : ByteArray) (i : Nat) (hi : i < x1.size) (n : Nat) : ∀ (j u k : Nat), j + n = 8 → u < 4294967296 →
    carillonref02_More.l1 (k + n + 1) x1 (u : Int) (i : Int) (j : Int) = carillonref02_More.l0 k x1 ((bitsN n u ((x1.data.toList.getD i 0).toNat / 2 ^ j) : Nat) : Int) (wrap64 ((i : Int) + 1)) := by
  induction n with
  | zero =>
    intro j u k hj hu
    obtain rfl : j = 8 := by omega
    rw [carillonref02_More.l1, if_neg (by decide)]
    rfl
  | succ n ih =>
    intro j u k hj hu
    have hjj : (j : Int) < 8 := by omega
    rw [show k + (n + 1) + 1 = (k + n + 1) + 1 by omega]
    rw [carillonref02_More.l1, if_pos hjj, if_pos (by omega), if_pos (by omega), if_pos (by omega), bt_nat, shr8 _ _ (by omega)]
    have hw : wrap64 ((j : Int) + 1) = ((j + 1 : Nat) : Int) := by unfold wrap64; omega
    have hd : Int.tdiv (u : Int) 2 = ((u / 2 : Nat) : Int) := by rw [Int.tdiv_eq_ediv_of_nonneg (by omega)]; rfl
    have hm : Int.tmod (u : Int) 2 = ((u % 2 : Nat) : Int) := by rw [Int.tmod_eq_emod_of_nonneg (by omega)]; rfl
    have hdm : ((u / 2 : Nat) : Int) % 4294967296 = ((u / 2 : Nat) : Int) := by omega
    generalize hc : (x1.data.toList.getD i 0).toNat = c
    have hc8 : c < 256 := by rw [← hc]; exact UInt8.toNat_lt _
    have hcj : c / 2 ^ j < 256 := Nat.lt_of_le_of_lt (Nat.div_le_self _ _) hc8
    have ih' := ih (j + 1) (bitst u (c / 2 ^ j % 2)) k (by omega) (by
      unfold bitst
      split
      · exact Nat.xor_lt_two_pow (n := 32) (by omega) (by decide)
      · omega)
    rw [hc] at ih'
    rw [hw, hd, hm, hdm]
    have hbit : (((c / 2 ^ j : Nat) : Int) % 4294967296 % 2 = ((u % 2 : Nat) : Int)) ↔ c / 2 ^ j % 2 = u % 2 := by omega
    simp only [bitsN]
    rw [Nat.div_div_eq_div_mul, ← Nat.pow_succ]
    by_cases hb : c / 2 ^ j % 2 = u % 2
    · rw [if_pos (hbit.2 hb), ← ih']
      unfold bitst
      rw [if_neg (by simpa using hb)]
    · rw [if_neg (fun h => hb (hbit.1 h)), ← ih']
      unfold bitst
      rw [if_pos hb]
      rw [show Go.bits .xor .u32 ((u / 2 : Nat) : Int) 2197175160 = ((u / 2 ^^^ 2197175160 : Nat) : Int) from u32_xor_nat (u / 2) 2197175160 (by omega) (by decide)]
theorem ref_bytes (x1 : ByteArray) (hs : x1.size ≤ 9223372036854775807) (n : Nat) : ∀ (i u k : Nat), i + n = x1.size → u < 4294967296 →
    carillonref02_More.l0 (k + 10 * n + 1) x1 (u : Int) (i : Int) = some ((4294967295 ^^^ crcFoldN u (x1.data.toList.drop i) : Nat) : Int) := by
  have hl : x1.data.toList.length = x1.size := by rw [Array.length_toList]; rfl
  induction n with
  | zero =>
    intro i u k hi hu
    rw [carillonref02_More.l0, if_neg (by omega), List.drop_of_length_le (by omega)]
    rw [show Go.bits .xor .u32 (u : Int) 4294967295 = ((u ^^^ 4294967295 : Nat) : Int) from u32_xor_nat u 4294967295 hu (by decide), Nat.xor_comm]
    rfl
  | succ n ih =>
    intro i u k hi hu
    rw [show k + 10 * (n + 1) + 1 = ((k + 10 * n + 1) + 8 + 1) + 1 by omega]
    rw [carillonref02_More.l0, if_pos (by omega)]
    have h := ref_bits x1 i (by omega) 8 0 u (k + 10 * n + 1) (by omega) hu
    rw [show ((0 : Nat) : Int) = 0 from rfl] at h
    rw [h, Nat.pow_zero, Nat.div_one]
    have hw : wrap64 ((i : Int) + 1) = ((i + 1 : Nat) : Int) := by unfold wrap64; omega
    have hc8 : (x1.data.toList.getD i 0).toNat < 256 := UInt8.toNat_lt _
    rw [hw, bitsN_byte _ _ hc8, ← crcByteN_is, ih (i + 1) _ k (by omega) (crcByteN_lt hu hc8)]
    rw [List.drop_eq_getElem_cons (i := i) (by omega)]
    have e : x1.data.toList[i]'(by omega) = x1.data.toList.getD i 0 := by rw [List.getD_eq_getElem?_getD, List.getElem?_eq_getElem (by omega)]; rfl
    rw [e]
    rfl
/-- The document's sum is the program's. -/
theorem ref_more (a0 : Int) (a1 : ByteArray) (h0 : 0 ≤ a0) (h1 : a0 < 4294967296) (hs : a1.size ≤ 9223372036854775807) : ∀ k, 10 * a1.size + 1 ≤ k → carillonref02_More.f k a0 a1 = crc_More.f a0 a1 := by
  intro k hk
  obtain ⟨m, rfl⟩ : ∃ m, k = m + 10 * a1.size + 1 := ⟨k - 10 * a1.size - 1, by omega⟩
  obtain ⟨n0, rfl⟩ : ∃ n0 : Nat, a0 = (n0 : Int) := ⟨a0.toNat, by omega⟩
  unfold carillonref02_More.f crc_More.f
  rw [if_pos ⟨h0, h1, hs⟩]
  rw [show Go.bits .xor .u32 (n0 : Int) 4294967295 = ((n0 ^^^ 4294967295 : Nat) : Int) from u32_xor_nat n0 4294967295 (by omega) (by decide)]
  have h := ref_bytes a1 hs a1.size 0 (n0 ^^^ 4294967295) m (by omega) (Nat.xor_lt_two_pow (n := 32) (by omega) (by decide))
  rw [show ((0 : Nat) : Int) = 0 from rfl] at h
  rw [h, List.drop_zero, Nat.xor_comm n0]
  rfl
theorem crnum_is (s : ByteArray) (h : 4 ≤ s.size) : carillonref02_value.f s = some ((num4 (ls s) : Nat) : Int) := cnum_is s h
theorem rsum_zero (s : ByteArray) (h : s.size ≤ 9223372036854775807) (k : Nat) (hk : 10 * s.size + 1 ≤ k) : carillonref02_Sum.f k s = some ((sum0 (ls s) : Nat) : Int) := by
  unfold carillonref02_Sum.f
  rw [ref_more 0 s (by omega) (by omega) h k hk]
  exact sum_zero s h
theorem rframe_is (b : ByteArray) (k : Nat) (hk : 4000100 ≤ k) : carillonref02_Frame.f k b = some (if (b.size : Int) > 400000 then ((⟨#[]⟩ : ByteArray), false) else (frame b, true)) := by
  unfold carillonref02_Frame.f
  by_cases h : (b.size : Int) > 400000
  · rw [if_pos h, if_pos h]
  · rw [if_neg h, if_neg h]
    have e0 : ((b.size : Int)) % 4294967296 = ((b.size : Nat) : Int) := by omega
    rw [e0]
    have hw : carillonref02_word.f ((b.size : Nat) : Int) = some (word b.size) := rfl
    have hz : (word b.size ++ b).size = 4 + b.size := by rw [ByteArray.size_append, word_size]
    have hs : carillonref02_Sum.f k (word b.size ++ b) = some ((sumOf (word4 b.size) (ls b) : Nat) : Int) := by
      rw [rsum_zero _ (by omega) k (by omega), ls_append, word_bytes, sum0_append]
    have hw2 : carillonref02_word.f ((sumOf (word4 b.size) (ls b) : Nat) : Int) = some (word (sumOf (word4 b.size) (ls b))) := by
      generalize sumOf (word4 b.size) (ls b) = q
      rfl
    rw [hw, Option.bind_some, if_pos (by rw [word_size]; omega), hs, Option.bind_some, hw2, Option.bind_some]
    rw [if_pos (by rw [word_size, word_size]; omega), if_pos (by rw [ByteArray.size_append, word_size, word_size]; omega)]
    unfold frame
    exact Eq.refl _
theorem crtake_is (s : ByteArray) (hs : s.size ≤ 9223372036854775807) (k : Nat) (hk : 4000100 ≤ k) : carillonref02_Take.f k s = some (takeV s) := by
  unfold carillonref02_Take.f takeV
  by_cases h4 : s.size < 4
  · rw [if_pos (by omega), if_pos h4]
  · have z4 : (s.extract 0 4).size = 4 := by rw [← ls_len, ls_extract, List.length_take, List.length_drop, ls_len]; omega
    have v4 : carillonref02_value.f (s.extract 0 4) = some ((num4 (ls s) : Nat) : Int) := by
      rw [crnum_is _ (by omega), ls_extract, List.drop_zero, num4_take _ _ (by omega)]
    rw [if_neg (by omega), if_neg h4, if_pos (by omega), if_pos (by omega), v4, Option.bind_some]
    have hn := num4_lt (ls s)
    generalize hn4 : num4 (ls s) = n at *
    by_cases h5 : 400000 < n
    · rw [if_pos (by omega), if_pos h5]
    · rw [if_neg (by omega), if_neg h5]
      have w5 : wrap64 (n : Int) = (n : Int) := by unfold wrap64; omega
      have w6 : wrap64 (8 + (n : Int)) = ((8 + n : Nat) : Int) := by unfold wrap64; omega
      rw [w5, w6]
      by_cases h6 : s.size < 8 + n
      · rw [if_pos (by omega), if_pos h6]
      · rw [if_neg (by omega), if_neg h6]
        have z8 : (s.extract 4 8).size = 4 := by rw [← ls_len, ls_extract, List.length_take, List.length_drop, ls_len]; omega
        have v8 : carillonref02_value.f (s.extract 4 8) = some ((num4 ((ls s).drop 4) : Nat) : Int) := by
          rw [crnum_is _ (by omega), ls_extract, num4_take _ _ (by omega)]
        rw [if_pos (by omega), if_pos (by omega), v8, Option.bind_some, if_pos (by omega), if_pos (by omega)]
        rw [show (((8 + n : Nat) : Int)).toNat = 8 + n from rfl]
        have e8 : (s.extract 8 (8 + n)).size ≤ n := by rw [← ls_len, ls_extract, List.length_take]; omega
        have hz : ((s.extract 0 4) ++ (s.extract 8 (8 + n))).size = 4 + (s.extract 8 (8 + n)).size := by rw [ByteArray.size_append, z4]
        have hsum : carillonref02_Sum.f k ((s.extract 0 4) ++ (s.extract 8 (8 + n))) = some ((sumOf ((ls s).take 4) (((ls s).drop 8).take n) : Nat) : Int) := by
          rw [rsum_zero _ (by omega) k (by omega), ls_append, ls_extract, ls_extract, sum0_append, List.drop_zero, show 8 + n - 8 = n by omega]
        rw [if_pos (by omega), hsum, Option.bind_some]
        by_cases h7 : sumOf ((ls s).take 4) (((ls s).drop 8).take n) = num4 ((ls s).drop 4)
        · rw [if_pos (by rw [h7]), if_pos h7]
        · rw [if_neg (fun h => h7 (Int.ofNat_inj.1 h).symm), if_neg h7]
theorem rreq_is (c : CM) (h1 : c.topic.size ≤ 140737488351232) (h2 : c.name.size ≤ 140737488351232) (k : Nat) (hk : c.topic.size + c.name.size + 4001200 ≤ k) : carillonref14_Request.f k c.kind c.topic c.name c.seq c.key c.value c.n c.node c.ask = some (if rightB c = true ∧ c.node = 0 then (frame (cText c), true) else (⟨#[]⟩, false)) := by
  unfold carillonref14_Request.f
  rw [renc14_is c h1 h2 k (by omega)]
  simp only [Option.bind_some]
  by_cases h : rightB c = true
  · rw [if_pos h]
    dsimp only
    rw [if_pos rfl]
    by_cases h2 : c.node = 0
    · have hl := cText_le (right_ok h)
      rw [if_pos h2, if_pos ⟨h, h2⟩, rframe_is _ k (by omega), if_neg (by omega)]
      rfl
    · rw [if_neg h2, if_neg (fun h => h2 h.2)]
  · rw [if_neg h]
    dsimp only
    rw [if_neg (show ¬ (false = true) by decide), if_neg (fun hh => h hh.1)]
theorem rasked_is (s : ByteArray) (hs : s.size ≤ 140737488351232) (k : Nat) (hk : 4001200 ≤ k) : carillonref14_Asked.f k s = some (tupC (askedV s).1 (askedV s).2) := by
  unfold carillonref14_Asked.f
  rw [crtake_is s (by omega) k (by omega)]
  simp only [Option.bind_some]
  by_cases h : (takeV s).2.2 = 0
  case neg =>
    rw [if_neg h]
    unfold askedV framedV
    rw [if_neg h]
    dsimp only
    rw [if_neg h]
    rfl
  rw [if_pos h]
  have hz : (takeV s).1.size ≤ 140737488351232 := by
    rcases take_tells s with ⟨_, _, h3⟩ | ⟨h3, _⟩
    · omega
    · exact absurd h h3
  rw [rdec14_is _ hz k (by omega)]
  simp only [Option.bind_some, tupC]
  by_cases h2 : (takeV s).2.1 = (s.size : Int)
  · have hf : framedV s = ((takeV s).1, 0) := by
      unfold framedV
      rw [if_pos h, if_pos h2]
    unfold askedV
    rw [hf]
    dsimp only
    by_cases h1 : (cmdV (takeV s).1).2 = 0
    · rw [if_pos h1, if_pos h2]
      by_cases h3 : (cmdV (takeV s).1).1.node = 0
      · rw [if_pos h3, if_pos rfl, if_pos ⟨h1, h3⟩]
      · rw [if_neg h3, if_pos rfl, if_neg (fun h => h3 h.2)]; rfl
    · rw [if_neg h1, if_pos rfl, if_neg (fun h => h1 h.1)]; rfl
  · have hf : framedV s = (⟨#[]⟩, 10) := by
      unfold framedV
      rw [if_pos h, if_neg h2]
    unfold askedV
    rw [hf]
    dsimp only
    rw [if_neg (show ¬ ((10 : Int) = 0) by decide)]
    by_cases h1 : (cmdV (takeV s).1).2 = 0
    · rw [if_pos h1, if_neg h2]; rfl
    · rw [if_neg h1]; rfl
def carillonlaw14_CommandAsks.Pure : Prop := ∀ (x0 : S23) (x1 : ByteArray), wf23 x0 → (∀ n ∈ lens23 x0, n ≤ 140737488351232) → x1.size ≤ 140737488351232 → ∃ k, carillonlaw14_CommandAsks.f k (x0.f0) (x0.f1) (x0.f2) (x0.f3) (x0.f4) (x0.f5) (x0.f6) (x0.f7) (x0.f8) x1 = some true
theorem asks_all (c : CM) (h1 : c.topic.size ≤ 140737488351232) (h2 : c.name.size ≤ 140737488351232) (hz : c.key.size + c.value.size ≤ 9223372036854775807) (s : ByteArray) (hs : s.size ≤ 140737488351232) (k : Nat) (hk : c.topic.size + c.name.size + 4001300 ≤ k) :
    carillonlaw14_CommandAsks.f k c.kind c.topic c.name c.seq c.key c.value c.n c.node c.ask s = some true := by
  unfold carillonlaw14_CommandAsks.f
  rw [show carillonlaw14_examples.f = some true from rfl, req_is c hz k (by omega), rreq_is c h1 h2 k (by omega), asked_is s hs k (by omega), rasked_is s hs k (by omega)]
  simp only [Option.bind_some, tupC]
  unfold reqV
  by_cases h : rightB c = true ∧ c.node = 0
  · rw [if_pos h, if_pos h]
    simp
  · rw [if_neg h, if_neg h]
    simp
theorem CommandAsks : carillonlaw14_CommandAsks.Pure := by
  intro x0 x1 _ hn hs
  have t1 := hn x0.f1.size (by simp [lens23])
  have t2 := hn x0.f2.size (by simp [lens23])
  have t4 := hn x0.f4.size (by simp [lens23])
  have t5 := hn x0.f5.size (by simp [lens23])
  exact ⟨x0.f1.size + x0.f2.size + 4001300, asks_all ⟨x0.f0, x0.f1, x0.f2, x0.f3, x0.f4, x0.f5, x0.f6, x0.f7, x0.f8⟩ t1 t2 (by dsimp only; omega) x1 hs _ (Nat.le_refl _)⟩
end Go.Proofs.YtpgiagdpepkooaaDoor.P
