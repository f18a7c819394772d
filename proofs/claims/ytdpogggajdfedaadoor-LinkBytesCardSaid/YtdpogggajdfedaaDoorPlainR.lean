/- The document's Decode comes to the same reading. -/
import Derived.Test.YtdpogggajdfedaaDoorPx10
import Derived.Test.YtdpogggajdfedaaDoorPx11
import Derived.Test.YtdpogggajdfedaaDoorPx16
import Derived.Test.YtdpogggajdfedaaDoorPx18
import Derived.Test.YtdpogggajdfedaaDoorPx3
import Derived.Test.YtdpogggajdfedaaDoorPx5
import Derived.Test.YtdpogggajdfedaaDoorPx7
import Derived.Test.YtdpogggajdfedaaDoorPx9
import Derived.Test.YtdpogggajdfedaaDoorPlainC
namespace Go.Proofs.YtdpogggajdfedaaDoor.P
open Go.RowKit Go.Proofs.YtdpogggajdfedaaDoorW.PrintWords Go.Proofs.YtdpogggajdfedaaDoorW.PrintLast Go.Proofs.YtdpogggajdfedaaDoorW.PrintMore
set_option linter.unusedSimpArgs false
set_option linter.unusedVariables false
set_option maxRecDepth 100000
theorem u8_nat {c : UInt8} {n : Nat} (h : n < 256) : ((c.toNat : Nat) : Int) = (n : Int) ↔ c = n.toUInt8 := by
  constructor
  · intro e
    have : c.toNat = n := by omega
    rw [← this]
    simp
  · rintro rfl
    simp
    omega
theorem kindOf_is (c : UInt8) : carillonref01_kindOf.f ((c.toNat : Nat) : Int) = some (kindI c) := by
  unfold carillonref01_kindOf.f kindI
  have e1 : (((c.toNat : Nat) : Int) = 98) = (c = 98) := propext (u8_nat (n := 98) (by decide))
  have e2 : (((c.toNat : Nat) : Int) = 119) = (c = 119) := propext (u8_nat (n := 119) (by decide))
  have e3 : (((c.toNat : Nat) : Int) = 108) = (c = 108) := propext (u8_nat (n := 108) (by decide))
  have e4 : (((c.toNat : Nat) : Int) = 116) = (c = 116) := propext (u8_nat (n := 116) (by decide))
  simp only [e1, e2, e3, e4]
  repeat' split <;> simp_all
theorem kind_star : kindI 42 = 0 := by decide
theorem drop_step (s : ByteArray) (i : Nat) (h : i < s.size) : s.data.toList.drop i = s.data.toList.getD i 0 :: s.data.toList.drop (i + 1) := by
  rw [List.drop_eq_getElem_cons (by rw [data_len]; exact h), List.getD_eq_getElem?_getD, List.getElem?_eq_getElem (by rw [data_len]; exact h)]
  rfl
theorem kinds_tail (a0 : ByteArray) (hz : a0.size ≤ 1048576) (a : List Int) (d : Nat) : ∀ (i : Nat) (b : List Int) (k : Nat), i + d = a0.size → b.length ≤ i → d < k →
    carillonref01_kinds.l0 k a0 a b true (i : Int) = some (if (a0.data.toList.drop i).all letB then (a, b ++ (a0.data.toList.drop i).map kindI, decide (0 < (b ++ (a0.data.toList.drop i).map kindI).length)) else ([], [], false)) := by
  induction d with
  | zero =>
    intro i b k hi hb hk
    obtain ⟨k, rfl⟩ : ∃ m, k = m + 1 := ⟨k - 1, by omega⟩
    rw [List.drop_of_length_le (by rw [data_len]; omega)]
    simp only [carillonref01_kinds.l0]
    rw [if_neg (by omega), if_pos trivial]
    simp
  | succ d ih =>
    intro i b k hi hb hk
    obtain ⟨k, rfl⟩ : ∃ m, k = m + 1 := ⟨k - 1, by omega⟩
    have hlt : i < a0.size := by omega
    obtain ⟨c, hc⟩ : ∃ c, a0.data.toList.getD i 0 = c := ⟨_, rfl⟩
    rw [drop_step a0 i hlt, hc]
    simp only [carillonref01_kinds.l0]
    have ew : wrap64 ((i : Int) + 1) = ((i + 1 : Nat) : Int) := by rw [wrap64_id] <;> omega
    rw [if_pos (by omega), if_pos (by omega), bt_get a0 i hlt, hc, kindOf_is]
    simp only [Option.bind_some, if_true, List.all_cons, List.map_cons]
    have hr := kindI_range c
    by_cases h0 : kindI c = 0
    · have hf : letB c = false := by rw [Bool.eq_false_iff]; intro h; have := (letB_iff c).1 h; omega
      simp only [h0, if_true, hf, Bool.false_and]
      split <;> rfl
    · have hf : letB c = true := (letB_iff c).2 (by omega)
      have hn : ¬ (((c.toNat : Nat) : Int) = 42) := fun h => h0 (by have := (u8_nat (n := 42) (by decide)).1 h; rw [this]; decide)
      rw [if_neg hn, if_neg h0, if_pos (by omega), ew, ih (i + 1) (b ++ [kindI c]) k (by omega) (by simp; omega) (by omega), hf, Bool.true_and]
      simp
theorem kinds_head (a0 : ByteArray) (hz : a0.size ≤ 1048576) (d : Nat) : ∀ (i : Nat) (a : List Int) (k : Nat), i + d = a0.size → a.length ≤ i → d < k →
    ((42 : UInt8) ∉ a0.data.toList.drop i → carillonref01_kinds.l0 k a0 a [] false (i : Int) = some (if (a0.data.toList.drop i).all letB then (a ++ (a0.data.toList.drop i).map kindI, [], true) else ([], [], false))) ∧
    (∀ hd tl, a0.data.toList.drop i = hd ++ 42 :: tl → (42 : UInt8) ∉ hd → carillonref01_kinds.l0 k a0 a [] false (i : Int) = some (if (hd ++ tl).all letB then (a ++ hd.map kindI, tl.map kindI, !tl.isEmpty) else ([], [], false))) := by
  induction d with
  | zero =>
    intro i a k hi hb hk
    obtain ⟨k, rfl⟩ : ∃ m, k = m + 1 := ⟨k - 1, by omega⟩
    rw [List.drop_of_length_le (by rw [data_len]; omega)]
    constructor
    · intro _
      simp only [carillonref01_kinds.l0]
      rw [if_neg (by omega), if_neg (by decide)]
      simp
    · intro hd tl h
      cases hd <;> simp at h
  | succ d ih =>
    intro i a k hi hb hk
    obtain ⟨k, rfl⟩ : ∃ m, k = m + 1 := ⟨k - 1, by omega⟩
    have hlt : i < a0.size := by omega
    obtain ⟨c, hc⟩ : ∃ c, a0.data.toList.getD i 0 = c := ⟨_, rfl⟩
    have ew : wrap64 ((i : Int) + 1) = ((i + 1 : Nat) : Int) := by rw [wrap64_id] <;> omega
    have hr := kindI_range c
    have step : carillonref01_kinds.l0 (k + 1) a0 a [] false (i : Int) = if c = 42 then carillonref01_kinds.l0 k a0 a [] true ((i + 1 : Nat) : Int) else if kindI c = 0 then some ([], [], false) else carillonref01_kinds.l0 k a0 (a ++ [kindI c]) [] false ((i + 1 : Nat) : Int) := by
      simp only [carillonref01_kinds.l0]
      rw [if_pos (by omega), if_pos (by omega), bt_get a0 i hlt, hc, kindOf_is]
      simp only [Option.bind_some]
      by_cases h4 : c = 42
      · rw [if_pos (show ((c.toNat : Nat) : Int) = 42 by rw [h4]; rfl), if_pos h4, if_neg (by decide), ew]
      · rw [if_neg (show ¬ ((c.toNat : Nat) : Int) = 42 from fun h => h4 ((u8_nat (n := 42) (by decide)).1 h)), if_neg h4]
        by_cases h0 : kindI c = 0
        · rw [if_pos h0, if_pos h0]
        · rw [if_neg h0, if_neg h0, if_neg (by decide), if_pos (by omega), ew]
    rw [drop_step a0 i hlt, hc, step]
    constructor
    · intro hn
      simp only [List.mem_cons, not_or] at hn
      rw [if_neg (fun h => hn.1 h.symm)]
      simp only [List.all_cons, List.map_cons]
      by_cases h0 : kindI c = 0
      · have hf : letB c = false := by rw [Bool.eq_false_iff]; intro h; have := (letB_iff c).1 h; omega
        rw [if_pos h0, hf]
        rfl
      · have hf : letB c = true := (letB_iff c).2 (by omega)
        rw [if_neg h0, (ih (i + 1) (a ++ [kindI c]) k (by omega) (by simp; omega) (by omega)).1 hn.2, hf, Bool.true_and]
        simp
    · intro hd tl h hn
      cases hd with
      | nil =>
        simp only [List.nil_append, List.cons.injEq] at h
        obtain ⟨rfl, h⟩ := h
        have := kinds_tail a0 hz a d (i + 1) [] k (by omega) (by simp) (by omega)
        rw [if_pos rfl, this, h]
        simp only [List.nil_append, List.map_nil, List.append_nil]
        split
        · cases tl <;> simp
        · rfl
      | cons x hd =>
        simp only [List.cons_append, List.cons.injEq] at h
        obtain ⟨rfl, h⟩ := h
        simp only [List.mem_cons, not_or] at hn
        rw [if_neg (fun h => hn.1 h.symm)]
        simp only [List.cons_append, List.all_cons, List.map_cons]
        by_cases h0 : kindI c = 0
        · have hf : letB c = false := by rw [Bool.eq_false_iff]; intro h; have := (letB_iff c).1 h; omega
          rw [if_pos h0, hf]
          rfl
        · have hf : letB c = true := (letB_iff c).2 (by omega)
          rw [if_neg h0, (ih (i + 1) (a ++ [kindI c]) k (by omega) (by simp; omega) (by omega)).2 hd tl h hn.2, hf, Bool.true_and]
          simp
theorem kinds_is (a0 : ByteArray) (hz : a0.size ≤ 1048576) (k : Nat) (hk : 1048577 ≤ k) : match parseS a0.data.toList with
    | some (a, b) => carillonref01_kinds.f k a0 = some (a, b, true)
    | none => ∃ a b, carillonref01_kinds.f k a0 = some (a, b, false) := by
  unfold carillonref01_kinds.f
  have hh := kinds_head a0 hz a0.size 0 [] k (by omega) (by simp) (by omega)
  rw [List.drop_zero] at hh
  by_cases h : (42 : UInt8) ∈ a0.data.toList
  · obtain ⟨hd, tl, h1, h2⟩ := cut_at _ _ h
    have := hh.2 hd tl h1 h2
    rw [h1, parse_star hd tl h2]
    rw [show ((0 : Nat) : Int) = 0 from rfl] at this
    cases g1 : (hd ++ tl).all letB
    · rw [g1] at this
      exact ⟨_, _, this⟩
    · rw [g1] at this
      cases tl with
      | nil => exact ⟨_, _, this⟩
      | cons x tl => exact this
  · have := hh.1 h
    rw [show ((0 : Nat) : Int) = 0 from rfl] at this
    rw [parse_plain _ h]
    cases g1 : a0.data.toList.all letB
    · rw [g1] at this
      exact ⟨_, _, this⟩
    · rw [g1] at this
      exact this
/-- The document's number of some bytes. -/
theorem value_is (s : ByteArray) (hz : s.size ≤ 8) (d : Nat) : ∀ (i : Nat) (k : Nat), i + d = s.size → d < k → carillonref01_value.l0 k s ((beNat (s.data.toList.take i) : Nat) : Int) (i : Int) = some ((beNat s.data.toList : Nat) : Int) := by
  induction d with
  | zero =>
    intro i k hi hk
    obtain ⟨k, rfl⟩ : ∃ m, k = m + 1 := ⟨k - 1, by omega⟩
    simp only [carillonref01_value.l0]
    rw [if_neg (by omega), List.take_of_length_le (by rw [data_len]; omega)]
  | succ d ih =>
    intro i k hi hk
    obtain ⟨k, rfl⟩ : ∃ m, k = m + 1 := ⟨k - 1, by omega⟩
    have hlt : i < s.size := by omega
    have ew : wrap64 ((i : Int) + 1) = ((i + 1 : Nat) : Int) := by rw [wrap64_id] <;> omega
    simp only [carillonref01_value.l0]
    rw [if_pos (by omega), if_pos (by omega), bt_get s i hlt, ew]
    have hb := beNat_lt (s.data.toList.take i)
    have hp : 256 ^ (s.data.toList.take i).length ≤ 256 ^ 7 := Nat.pow_le_pow_right (by decide) (by rw [List.length_take, data_len]; omega)
    have h7 : (256 : Nat) ^ 7 = 72057594037927936 := by decide
    have hc := (s.data.toList.getD i 0).toNat_lt
    have e := beNat_snoc (s.data.toList.take i) (s.data.toList.getD i 0)
    rw [← take_snocB _ i (by rw [data_len]; exact hlt)] at e
    have ev : IntKind.u64.wrap (IntKind.u64.wrap (256 * ((beNat (s.data.toList.take i) : Nat) : Int)) + IntKind.u64.wrap (((s.data.toList.getD i 0).toNat : Nat) : Int)) = ((beNat (s.data.toList.take (i + 1)) : Nat) : Int) := by
      show ((256 * ((beNat (s.data.toList.take i) : Nat) : Int)) % 18446744073709551616 + (((s.data.toList.getD i 0).toNat : Nat) : Int) % 18446744073709551616) % 18446744073709551616 = _
      rw [e]
      omega
    rw [ev]
    exact ih (i + 1) k (by omega) (by omega)
theorem value_f (s : ByteArray) (hz : s.size ≤ 8) (k : Nat) (hk : 9 ≤ k) : carillonref01_value.f k s = some ((beNat s.data.toList : Nat) : Int) := by
  have := value_is s hz s.size 0 k (by omega) (by omega)
  simpa [carillonref01_value.f, beNat] using this
/-- How many bytes an item has. -/
def takeN (k : Int) (s : ByteArray) : Nat := if k = 4 then 4 + beNat (s.data.toList.take 4) else widthI k
theorem take_rest {k : Int} {s : ByteArray} {x : S50} {s' : ByteArray} (h : takeS k s = .ok (x, s')) : s' = s.extract (takeN k s) s.size ∧ takeN k s ≤ s.size := by
  unfold takeS at h
  unfold takeN
  split at h
  · rename_i h4
    rw [if_pos h4]
    split at h
    · cases h
    · split at h
      · cases h
      · split at h
        · cases h
        · cases h
          exact ⟨rfl, by omega⟩
  · rename_i h4
    rw [if_neg h4]
    split at h
    · cases h
    · cases h
      exact ⟨rfl, by omega⟩
theorem rtake_is (k : Nat) (hk : 9 ≤ k) (κ : Int) (s : ByteArray) (h1 : 1 ≤ κ) (h4 : κ ≤ 4) (hs : s.size ≤ 140737488351232) : carillonref01_take.f k κ s = some (match takeS κ s with
    | .error e => (0, 0, ⟨#[]⟩, 0, e)
    | .ok (x, _) => (x.f0, x.f1, x.f2, ((takeN κ s : Nat) : Int), 0)) := by
  unfold carillonref01_take.f takeS takeN
  have ew : carillonref01_width.f κ = some ((widthI κ : Nat) : Int) := by
    have : κ = 1 ∨ κ = 2 ∨ κ = 3 ∨ κ = 4 := by omega
    rcases this with rfl | rfl | rfl | rfl <;> rfl
  rw [ew]
  simp only [Option.bind_some]
  by_cases h : κ = 4
  · subst h
    rw [if_neg (by decide), if_pos rfl]
    by_cases g : s.size < 4
    · rw [if_pos (by omega), if_pos g]
    · have hv := value_f (s.extract 0 4) (by rw [ByteArray.size_extract]; omega) k hk
      have el : (s.extract 0 4).data.toList = s.data.toList.take 4 := by rw [ext_list]; simp
      rw [el] at hv
      rw [if_neg (by omega), if_neg g, if_pos (by omega), if_pos (by omega), hv]
      obtain ⟨v, hv'⟩ : ∃ v, v = beNat (s.data.toList.take 4) := ⟨_, rfl⟩
      rw [← hv']
      simp only [Option.bind_some]
      by_cases g2 : 100000 < v
      · rw [if_pos (by omega), if_pos g2]
      · rw [if_neg (by omega), if_neg g2]
        have e1 : IntKind.u64.wrap (wrap64 ((s.size : Int) - 4)) = ((s.size - 4 : Nat) : Int) := by
          rw [wrap64_id (by omega) (by omega)]
          show ((s.size : Int) - 4) % 18446744073709551616 = _
          omega
        have e2 : wrap64 (4 + wrap64 (v : Int)) = ((4 + v : Nat) : Int) := by rw [wrap64_id (n := (v : Int)) (by omega) (by omega), wrap64_id] <;> omega
        rw [e1, e2]
        by_cases g3 : s.size - 4 < v
        · rw [if_pos (by omega), if_pos g3]
        · rw [if_neg (by omega), if_neg g3, if_pos (by omega), if_pos (by omega)]
          rfl
  · have hw : 0 < widthI κ ∧ widthI κ ≤ 8 := by
      have : κ = 1 ∨ κ = 2 ∨ κ = 3 := by omega
      rcases this with rfl | rfl | rfl <;> decide
    rw [if_pos (by omega), if_neg h]
    by_cases g : s.size < widthI κ
    · rw [if_pos (by omega), if_pos g]
    · have hv := value_f (s.extract 0 (widthI κ)) (by rw [ByteArray.size_extract]; omega) k hk
      have el : (s.extract 0 (widthI κ)).data.toList = s.data.toList.take (widthI κ) := by rw [ext_list]; simp
      rw [el] at hv
      rw [if_neg (by omega), if_neg g, if_pos (by omega), if_pos (by omega), show (((widthI κ : Nat) : Int)).toNat = widthI κ from rfl, hv, if_neg h]
      rfl
theorem arm_is (k : Nat) (hk : 9 ≤ k) (κ : Int) (s : ByteArray) (out : List S50) (h1 : 1 ≤ κ) (h4 : κ ≤ 4) (hs : s.size ≤ 140737488351232) (ho : out.length ≤ 1000) (F : ByteArray → List S50 → Option (List S50 × Int)) :
    ((carillonref01_take.f k κ s).bind fun bt => (if bt.2.2.2.2 = 0 then (if out.length < 4398046511104 then (if 0 ≤ bt.2.2.2.1 then (if bt.2.2.2.1 ≤ (s.size : Int) then F (s.extract (bt.2.2.2.1 : Int).toNat s.size) (out ++ [(⟨bt.1, bt.2.1, bt.2.2.1⟩ : S50)]) else none) else none) else none) else some (([] : List S50), bt.2.2.2.2))) =
    match takeS κ s with
      | .error e => some ([], e)
      | .ok (x, s') => F s' (out ++ [x]) := by
  rw [rtake_is k hk κ s h1 h4 hs]
  simp only [Option.bind_some]
  cases h : takeS κ s with
  | error e =>
    simp only
    have : e ≠ 0 := by
      unfold takeS at h
      split at h
      · split at h
        · cases h; decide
        · split at h
          · cases h; decide
          · split at h
            · cases h; decide
            · cases h
      · split at h
        · cases h; decide
        · cases h
    rw [if_neg this]
  | ok p =>
    obtain ⟨x, s'⟩ := p
    have hr := take_rest h
    simp only [if_true]
    rw [if_pos (by omega), if_pos (by omega), if_pos (by omega), show (((takeN κ s : Nat) : Int)).toNat = takeN κ s from rfl, ← hr.1]
def curR (a b : List Int) (x : Nat) : List Int := if x < a.length then a.drop x else if (x - a.length) % b.length = 0 then [] else b.drop ((x - a.length) % b.length)
theorem rd_nat (l : List Int) (i : Nat) (h : i < l.length) : rd l (i : Int) = l[i] := by
  unfold rd
  rw [show ((i : Int)).toNat = i from rfl, List.getD_eq_getElem?_getD, List.getElem?_eq_getElem h]
  rfl
theorem curR_head (a b : List Int) (x : Nat) (h : x < a.length) : curR a b x = a[x] :: curR a b (x + 1) := by
  unfold curR
  rw [if_pos h, List.drop_eq_getElem_cons h]
  congr 1
  by_cases g : x + 1 < a.length
  · rw [if_pos g]
  · rw [if_neg g, show x + 1 - a.length = 0 by omega, if_pos (by simp), List.drop_of_length_le (by omega)]
theorem mod_next (m n : Nat) (h : 0 < n) : (m + 1) % n = if m % n + 1 = n then 0 else m % n + 1 := by
  have h1 := Nat.mod_lt m h
  rw [Nat.add_mod]
  by_cases g : m % n + 1 = n
  · rw [if_pos g]
    by_cases e : n = 1
    · subst e; simp [Nat.mod_one]
    · rw [Nat.mod_eq_of_lt (show 1 < n by omega), g, Nat.mod_self]
  · rw [if_neg g, Nat.mod_eq_of_lt (show 1 < n by omega), Nat.mod_eq_of_lt (by omega)]
theorem curR_tail (a b : List Int) (x : Nat) (h : a.length ≤ x) (hb : 0 < b.length) : b.drop ((x - a.length) % b.length) = b[(x - a.length) % b.length]'(Nat.mod_lt _ hb) :: curR a b (x + 1) := by
  have h1 := Nat.mod_lt (x - a.length) hb
  rw [List.drop_eq_getElem_cons h1]
  congr 1
  unfold curR
  rw [if_neg (by omega), show x + 1 - a.length = (x - a.length) + 1 by omega, mod_next _ _ hb]
  by_cases g : (x - a.length) % b.length + 1 = b.length
  · rw [if_pos g, if_pos rfl, List.drop_of_length_le (by omega)]
  · rw [if_neg g, if_neg (by omega)]
/-- One round of the document's reading, told in one piece. -/
theorem rl0_old (k : Nat) (x1 : ByteArray) (x6 x7 : List Int) (x9 : List S50) (x10 : Int) : carillonref01_Decode.l0 (k + 4) x1 x6 x7 x9 x10 = if x10 < (x6.length : Int) then (if x10 ≥ (x6.length : Int) then (if (x7.length : Int) = 0 then (none) else (if (Int.tmod (wrap64 (x10 - (x6.length : Int))) (x7.length : Int)) = 0 then (if x1.toList = ([] : List UInt8) then (some (x9, 0)) else (if 0 ≤ x10 then (if (x9.length : Int) = 1000 then (some (([] : List (S50)), 3)) else ((carillonref01_take.f k (rd x6 x10) x1).bind fun bt190 => (if bt190.2.2.2.2 = 0 then (if x9.length < 4398046511104 then (if 0 ≤ bt190.2.2.2.1 then (if bt190.2.2.2.1 ≤ (x1.size : Int) then (carillonref01_Decode.l0 k (x1.extract (bt190.2.2.2.1 : Int).toNat x1.size) x6 x7 (x9 ++ [(⟨bt190.1, bt190.2.1, bt190.2.2.1⟩ : S50)]) (wrap64 (x10 + 1))) else (none)) else (none)) else (none)) else (some (([] : List (S50)), bt190.2.2.2.2))))) else (none))) else (if 0 ≤ x10 then (if (x9.length : Int) = 1000 then (some (([] : List (S50)), 3)) else ((carillonref01_take.f k (rd x6 x10) x1).bind fun bt200 => (if bt200.2.2.2.2 = 0 then (if x9.length < 4398046511104 then (if 0 ≤ bt200.2.2.2.1 then (if bt200.2.2.2.1 ≤ (x1.size : Int) then (carillonref01_Decode.l0 k (x1.extract (bt200.2.2.2.1 : Int).toNat x1.size) x6 x7 (x9 ++ [(⟨bt200.1, bt200.2.1, bt200.2.2.1⟩ : S50)]) (wrap64 (x10 + 1))) else (none)) else (none)) else (none)) else (some (([] : List (S50)), bt200.2.2.2.2))))) else (none)))) else (if 0 ≤ x10 then (if (x9.length : Int) = 1000 then (some (([] : List (S50)), 3)) else ((carillonref01_take.f k (rd x6 x10) x1).bind fun bt210 => (if bt210.2.2.2.2 = 0 then (if x9.length < 4398046511104 then (if 0 ≤ bt210.2.2.2.1 then (if bt210.2.2.2.1 ≤ (x1.size : Int) then (carillonref01_Decode.l0 k (x1.extract (bt210.2.2.2.1 : Int).toNat x1.size) x6 x7 (x9 ++ [(⟨bt210.1, bt210.2.1, bt210.2.2.1⟩ : S50)]) (wrap64 (x10 + 1))) else (none)) else (none)) else (none)) else (some (([] : List (S50)), bt210.2.2.2.2))))) else (none))) else (if (x7.length : Int) > 0 then (if x10 ≥ (x6.length : Int) then (if (x7.length : Int) = 0 then (none) else (if (Int.tmod (wrap64 (x10 - (x6.length : Int))) (x7.length : Int)) = 0 then (if x1.toList = ([] : List UInt8) then (some (x9, 0)) else (if 0 ≤ (Int.tmod (wrap64 (x10 - (x6.length : Int))) (x7.length : Int)) then (if (Int.tmod (wrap64 (x10 - (x6.length : Int))) (x7.length : Int)) < (x7.length : Int) then (if (x9.length : Int) = 1000 then (some (([] : List (S50)), 3)) else ((carillonref01_take.f k (rd x7 (Int.tmod (wrap64 (x10 - (x6.length : Int))) (x7.length : Int))) x1).bind fun bt220 => (if bt220.2.2.2.2 = 0 then (if x9.length < 4398046511104 then (if 0 ≤ bt220.2.2.2.1 then (if bt220.2.2.2.1 ≤ (x1.size : Int) then (carillonref01_Decode.l0 k (x1.extract (bt220.2.2.2.1 : Int).toNat x1.size) x6 x7 (x9 ++ [(⟨bt220.1, bt220.2.1, bt220.2.2.1⟩ : S50)]) (wrap64 (x10 + 1))) else (none)) else (none)) else (none)) else (some (([] : List (S50)), bt220.2.2.2.2))))) else (none)) else (none))) else (if 0 ≤ (Int.tmod (wrap64 (x10 - (x6.length : Int))) (x7.length : Int)) then (if (Int.tmod (wrap64 (x10 - (x6.length : Int))) (x7.length : Int)) < (x7.length : Int) then (if (x9.length : Int) = 1000 then (some (([] : List (S50)), 3)) else ((carillonref01_take.f k (rd x7 (Int.tmod (wrap64 (x10 - (x6.length : Int))) (x7.length : Int))) x1).bind fun bt230 => (if bt230.2.2.2.2 = 0 then (if x9.length < 4398046511104 then (if 0 ≤ bt230.2.2.2.1 then (if bt230.2.2.2.1 ≤ (x1.size : Int) then (carillonref01_Decode.l0 k (x1.extract (bt230.2.2.2.1 : Int).toNat x1.size) x6 x7 (x9 ++ [(⟨bt230.1, bt230.2.1, bt230.2.2.1⟩ : S50)]) (wrap64 (x10 + 1))) else (none)) else (none)) else (none)) else (some (([] : List (S50)), bt230.2.2.2.2))))) else (none)) else (none)))) else (if (x7.length : Int) = 0 then (none) else (if 0 ≤ (Int.tmod (wrap64 (x10 - (x6.length : Int))) (x7.length : Int)) then (if (Int.tmod (wrap64 (x10 - (x6.length : Int))) (x7.length : Int)) < (x7.length : Int) then (if (x9.length : Int) = 1000 then (some (([] : List (S50)), 3)) else ((carillonref01_take.f k (rd x7 (Int.tmod (wrap64 (x10 - (x6.length : Int))) (x7.length : Int))) x1).bind fun bt240 => (if bt240.2.2.2.2 = 0 then (if x9.length < 4398046511104 then (if 0 ≤ bt240.2.2.2.1 then (if bt240.2.2.2.1 ≤ (x1.size : Int) then (carillonref01_Decode.l0 k (x1.extract (bt240.2.2.2.1 : Int).toNat x1.size) x6 x7 (x9 ++ [(⟨bt240.1, bt240.2.1, bt240.2.2.1⟩ : S50)]) (wrap64 (x10 + 1))) else (none)) else (none)) else (none)) else (some (([] : List (S50)), bt240.2.2.2.2))))) else (none)) else (none)))) else (if x1.toList = ([] : List UInt8) then (some (x9, 0)) else (some (([] : List (S50)), 10)))) := by
  simp only [carillonref01_Decode.l0, carillonref01_Decode.j1, carillonref01_Decode.j2, carillonref01_Decode.j3]
  by_cases h1 : x10 < (x6.length : Int)
  · have h1' : ¬ x10 ≥ (x6.length : Int) := by omega
    simp [h1, h1']
  · have h1' : x10 ≥ (x6.length : Int) := by omega
    by_cases h2 : (x7.length : Int) > 0
    · have h2' : ¬ (x7.length : Int) = 0 := by omega
      by_cases h3 : (Int.tmod (wrap64 (x10 - (x6.length : Int))) (x7.length : Int)) = 0
      · by_cases h4 : x1.toList = ([] : List UInt8)
        · simp only [if_neg h1, if_pos h1', if_pos h2, if_neg h2', if_pos h3, if_pos h4, decide_eq_true h2, if_true, h4]
          rfl
        · have h4' : (x1.toList == ([] : List UInt8)) = false := by simpa using h4
          simp only [if_neg h1, if_pos h1', if_pos h2, if_neg h2', if_pos h3, if_neg h4, decide_eq_true h2, if_true, h4', Bool.false_eq_true, if_false]
      · simp only [if_neg h1, if_pos h1', if_pos h2, if_neg h2', if_neg h3, decide_eq_true h2, if_true, Bool.false_eq_true, if_false]
    · simp only [if_neg h1, if_neg h2, decide_eq_false h2, Bool.false_eq_true, if_false]
theorem rdec_is (a b : List Int) (ha : a.length ≤ 1048576) (hb : b.length ≤ 1048576) (ka : ∀ x ∈ a, 1 ≤ x ∧ x ≤ 4) (kb : ∀ x ∈ b, 1 ≤ x ∧ x ≤ 4) (n : Nat) : ∀ (out : List S50) (s : ByteArray) (k : Nat), out.length + n = 1000 → (b = [] → out.length ≤ a.length) → s.size ≤ 140737488351232 → 4 * n + 12 ≤ k →
    carillonref01_Decode.l0 k s a b out (out.length : Int) = some (decS b n (curR a b out.length) out s) := by
  induction n with
  | zero =>
    intro out s k ho hx hs hk
    obtain ⟨k, rfl⟩ : ∃ m, k = m + 4 := ⟨k - 4, by omega⟩
    by_cases h : out.length < a.length
    · rw [rl0_old]
      rw [if_pos (by omega), if_neg (by omega), if_pos (by omega), if_pos (by omega), curR_head a b _ h]
      rfl
    · by_cases hb0 : b = []
      · have hx' := hx hb0
        subst hb0
        have e : out.length = a.length := by omega
        rw [rl0_old]
        rw [if_neg (by omega), if_neg (by simp)]
        have : curR a [] out.length = [] := by unfold curR; rw [if_neg (by omega), show out.length - a.length = 0 by omega]; simp
        rw [this]
        simp only [decS, nextK]
        split <;> rfl
      · have hbl : 0 < b.length := List.length_pos_iff.2 hb0
        have ht := curR_tail a b out.length (by omega) hbl
        have hm : Int.tmod (wrap64 ((out.length : Int) - (a.length : Int))) (b.length : Int) = (((out.length - a.length) % b.length : Nat) : Int) := by
          rw [wrap64_id (by omega) (by omega), show (out.length : Int) - (a.length : Int) = ((out.length - a.length : Nat) : Int) by omega]
          rfl
        have hml := Nat.mod_lt (out.length - a.length) hbl
        rw [rl0_old]
        rw [if_neg (by omega), if_pos (by omega), if_pos (by omega), if_neg (by omega), hm]
        by_cases g : (out.length - a.length) % b.length = 0
        · rw [if_pos (by omega)]
          have : curR a b out.length = [] := by unfold curR; rw [if_neg (by omega), if_pos g]
          rw [this]
          obtain ⟨b0, bs, rfl⟩ : ∃ b0 bs, b = b0 :: bs := by cases b with | nil => exact absurd rfl hb0 | cons x xs => exact ⟨x, xs, rfl⟩
          simp only [decS, nextK]
          by_cases gs : s.toList = ([] : List UInt8)
          · rw [if_pos gs, if_pos gs]
          · rw [if_neg gs, if_neg gs, if_pos (by omega), if_pos (by omega), if_pos (by omega)]
        · rw [if_neg (by omega), if_pos (by omega), if_pos (by omega), if_pos (by omega)]
          have : curR a b out.length = b.drop ((out.length - a.length) % b.length) := by unfold curR; rw [if_neg (by omega), if_neg g]
          rw [this, ht]
          rfl
  | succ n ih =>
    intro out s k ho hx hs hk
    obtain ⟨k, rfl⟩ : ∃ m, k = m + 4 := ⟨k - 4, by omega⟩
    have ew : wrap64 ((out.length : Int) + 1) = ((out.length + 1 : Nat) : Int) := by rw [wrap64_id] <;> omega
    by_cases h : out.length < a.length
    · have hk1 := ka _ (List.getElem_mem h)
      rw [rl0_old]
      rw [if_pos (by omega), if_neg (by omega), if_pos (by omega), if_neg (by omega), rd_nat a _ h, ew, arm_is k (by omega) _ s out hk1.1 hk1.2 hs (by omega) (fun s' o' => carillonref01_Decode.l0 k s' a b o' ((out.length + 1 : Nat) : Int)), curR_head a b _ h]
      simp only [decS, nextK]
      cases hts : takeS a[out.length] s with
      | error e => rfl
      | ok p =>
        obtain ⟨x, s'⟩ := p
        have h1 := take_size hts
        have h2 := ih (out ++ [x]) s' k (by simp; omega) (by intro hb; simp; omega) (by omega) (by omega)
        rw [List.length_append, List.length_singleton] at h2
        exact h2
    · by_cases hb0 : b = []
      · have hx' := hx hb0
        subst hb0
        have e : out.length = a.length := by omega
        rw [rl0_old]
        rw [if_neg (by omega), if_neg (by simp)]
        have : curR a [] out.length = [] := by unfold curR; rw [if_neg (by omega), show out.length - a.length = 0 by omega]; simp
        rw [this]
        simp only [decS, nextK]
        split <;> rfl
      · have hbl : 0 < b.length := List.length_pos_iff.2 hb0
        have ht := curR_tail a b out.length (by omega) hbl
        have hm : Int.tmod (wrap64 ((out.length : Int) - (a.length : Int))) (b.length : Int) = (((out.length - a.length) % b.length : Nat) : Int) := by
          rw [wrap64_id (by omega) (by omega), show (out.length : Int) - (a.length : Int) = ((out.length - a.length : Nat) : Int) by omega]
          rfl
        have hml := Nat.mod_lt (out.length - a.length) hbl
        have hk1 := kb _ (List.getElem_mem hml)
        rw [rl0_old]
        rw [if_neg (by omega), if_pos (by omega), if_pos (by omega), if_neg (by omega), hm]
        by_cases g : (out.length - a.length) % b.length = 0
        · rw [if_pos (by omega)]
          have e0 : curR a b out.length = [] := by unfold curR; rw [if_neg (by omega), if_pos g]
          rw [e0]
          have hn : nextK b [] s out = (if s.toList = ([] : List UInt8) then .inl (out, 0) else .inr (b[(out.length - a.length) % b.length]'hml, curR a b (out.length + 1))) := by
            have : b = b[(out.length - a.length) % b.length]'hml :: curR a b (out.length + 1) := by rw [← ht, g, List.drop_zero]
            obtain ⟨b0, bs, hbb⟩ : ∃ b0 bs, b = b0 :: bs := by cases b with | nil => exact absurd rfl hb0 | cons x xs => exact ⟨x, xs, rfl⟩
            have e1 := hbb.symm.trans this
            injection e1 with e2 e3
            rw [← e2, ← e3]
            conv => lhs; rw [hbb]
            rfl
          simp only [decS]
          rw [hn]
          by_cases gs : s.toList = ([] : List UInt8)
          · rw [if_pos gs, if_pos gs]
          · rw [if_neg gs, if_neg gs, if_pos (by omega), if_pos (by omega), if_neg (by omega), rd_nat b _ hml, ew, arm_is k (by omega) _ s out hk1.1 hk1.2 hs (by omega) (fun s' o' => carillonref01_Decode.l0 k s' a b o' ((out.length + 1 : Nat) : Int))]
            simp only
            cases hts : takeS (b[(out.length - a.length) % b.length]'hml) s with
            | error e => rfl
            | ok p =>
              obtain ⟨x, s'⟩ := p
              have h1 := take_size hts
              have h2 := ih (out ++ [x]) s' k (by simp; omega) (fun hb => absurd hb hb0) (by omega) (by omega)
              rw [List.length_append, List.length_singleton] at h2
              exact h2
        · have e0 : curR a b out.length = b.drop ((out.length - a.length) % b.length) := by unfold curR; rw [if_neg (by omega), if_neg g]
          rw [if_neg (by omega), if_pos (by omega), if_pos (by omega), if_neg (by omega), rd_nat b _ hml, ew, arm_is k (by omega) _ s out hk1.1 hk1.2 hs (by omega) (fun s' o' => carillonref01_Decode.l0 k s' a b o' ((out.length + 1 : Nat) : Int)), e0, ht]
          simp only [decS, nextK]
          cases hts : takeS (b[(out.length - a.length) % b.length]'hml) s with
          | error e => rfl
          | ok p =>
            obtain ⟨x, s'⟩ := p
            have h1 := take_size hts
            have h2 := ih (out ++ [x]) s' k (by simp; omega) (fun hb => absurd hb hb0) (by omega) (by omega)
            rw [List.length_append, List.length_singleton] at h2
            exact h2
theorem parse_kinds {L : List UInt8} {a b : List Int} (h : parseS L = some (a, b)) : (∀ x ∈ a, 1 ≤ x ∧ x ≤ 4) ∧ (∀ x ∈ b, 1 ≤ x ∧ x ≤ 4) ∧ a.length ≤ L.length ∧ b.length ≤ L.length := by
  have key : ∀ l : List UInt8, l.all letB = true → ∀ x ∈ l.map kindI, 1 ≤ x ∧ x ≤ 4 := by
    intro l hl x hx
    obtain ⟨c, hc, rfl⟩ := List.mem_map.1 hx
    have := kindI_range c
    exact ⟨(letB_iff c).1 (List.all_eq_true.1 hl c hc), by omega⟩
  by_cases h4 : (42 : UInt8) ∈ L
  · obtain ⟨hd, tl, h1, h2⟩ := cut_at _ _ h4
    rw [h1, parse_star hd tl h2] at h
    split at h
    · rename_i g
      cases h
      rw [Bool.and_eq_true, List.all_append, Bool.and_eq_true] at g
      refine ⟨key hd g.1.1, key tl g.1.2, ?_, ?_⟩ <;> rw [h1] <;> simp <;> omega
    · cases h
  · rw [parse_plain _ h4] at h
    split at h
    · rename_i g
      cases h
      exact ⟨key L g, by simp, by simp, by simp⟩
    · cases h
/-- The document's Decode, at every shape (of a bounded length) and text. -/
theorem rdecode_is (a0 s : ByteArray) (hz : a0.size ≤ 1048576) (hs : s.size ≤ 140737488351232) (k : Nat) (hk : 1048577 ≤ k) : carillonref01_Decode.f k a0 s = some (decodeS a0.data.toList s) := by
  unfold carillonref01_Decode.f decodeS
  have hki := kinds_is a0 hz k hk
  cases hp : parseS a0.data.toList with
  | none =>
    rw [hp] at hki
    obtain ⟨a, b, he⟩ := hki
    rw [he]
    rfl
  | some p =>
    obtain ⟨a, b⟩ := p
    rw [hp] at hki
    simp only at hki ⊢
    rw [hki]
    obtain ⟨ka, kb, la, lb⟩ := parse_kinds hp
    rw [data_len] at la lb
    have := rdec_is a b (by omega) (by omega) ka kb 1000 [] s k (by simp) (by simp) hs (by omega)
    have e0 : curR a b 0 = a := by
      unfold curR
      by_cases g : 0 < a.length
      · rw [if_pos g, List.drop_zero]
      · rw [if_neg g, show 0 - a.length = 0 by omega, if_pos (by simp)]
        exact (List.length_eq_zero_iff.1 (by omega)).symm
    simp only [Option.bind_some, if_true]
    rw [List.length_nil, e0] at this
    exact this
theorem num_loop (m : Nat) : ∀ (k : Nat) (v : Int) (tl : List Int), 0 ≤ v → v < 18446744073709551616 → m + tl.length ≤ 8 → carillonref01_num.l0 (k + m + 1) v (List.replicate m 0 ++ tl) ((m : Int) - 1) = some (strOfNums (beI v m ++ tl)) := by
  induction m with
  | zero =>
    intro k v tl _ _ _
    simp only [carillonref01_num.l0]
    rw [if_neg (by omega)]
    simp [beI]
  | succ m ih =>
    intro k v tl h0 h1 hm
    rw [show k + (m + 1) + 1 = (k + m + 1) + 1 by omega, carillonref01_num.l0, if_pos (by omega), if_pos (by omega), if_pos (by simp; omega)]
    have e1 : wrap64 (((m + 1 : Nat) : Int) - 1 - 1) = (m : Int) - 1 := by rw [wrap64_id] <;> omega
    have e2 : IntKind.u64.wrap (Int.tdiv v 256) = v / 256 := by
      rw [Int.tdiv_eq_ediv_of_nonneg h0]
      show (v / 256) % 18446744073709551616 = _
      omega
    have e3 : (Int.tmod v 256) % 256 = v % 256 := by rw [Int.tmod_eq_emod_of_nonneg h0]; omega
    have e4 : (List.replicate (m + 1) (0 : Int) ++ tl).set (((m + 1 : Nat) : Int) - 1).toNat (v % 256) = List.replicate m 0 ++ (v % 256 :: tl) := by
      rw [show (((m + 1 : Nat) : Int) - 1).toNat = m by omega, List.replicate_succ', List.append_assoc, List.set_append]
      simp
    rw [e1, e2, e3, e4, ih k (v / 256) _ (by omega) (by omega) (by simp; omega), beI_snoc]
    simp
theorem num_f (v : Int) (m : Nat) (k : Nat) (h0 : 0 ≤ v) (h1 : v < 18446744073709551616) (hm : m ≤ 8) (hk : 10 ≤ k) : carillonref01_num.f k v (m : Int) = some (strOfNums (beI v m)) := by
  unfold carillonref01_num.f
  rw [if_pos (by omega), show ((m : Int)).toNat = m from rfl, if_pos (by omega), wrap64_id (by omega) (by omega)]
  have := num_loop m (k - m - 1) v [] h0 h1 (by simpa using hm)
  rw [show k - m - 1 + m + 1 = k by omega, List.append_nil, List.append_nil] at this
  exact this
theorem son_append (a b : List Int) : strOfNums (a ++ b) = strOfNums a ++ strOfNums b := by
  apply ba_eq
  rw [ByteArray.data_append, Array.toList_append, strOfNums_data, strOfNums_data, strOfNums_data, List.map_append]
theorem son_bytes (s : ByteArray) : strOfNums (bytesOf s) = s := by
  apply ba_eq
  rw [strOfNums_data]
  unfold bytesOf
  rw [List.map_map]
  conv => rhs; rw [← List.map_id s.data.toList]
  apply List.map_congr_left
  intro c _
  simp
theorem one_is (x : S50) (hx : WfI x) (k : Nat) (hk : 10 ≤ k) : carillonref01_one.f k x.f0 x.f1 x.f2 = some (match encOne x with
    | .error e => (⟨#[]⟩, e)
    | .ok l => (strOfNums l, 0)) := by
  obtain ⟨w0, w1, w2, w3, w4⟩ := hx
  unfold carillonref01_one.f encOne
  by_cases h4 : x.f0 = 4
  · have ew : carillonref01_width.f x.f0 = some 0 := by rw [h4]; rfl
    rw [ew, if_pos h4]
    simp only [Option.bind_some]
    rw [if_pos trivial, if_pos h4, if_neg (by decide)]
    by_cases h1 : x.f1 = 0
    · rw [if_pos h1, if_pos h1]
      by_cases hs : 100000 < x.f2.size
      · rw [if_pos (by omega), if_pos hs]
      · have eu : IntKind.u64.wrap (x.f2.size : Int) = (x.f2.size : Int) := by show (x.f2.size : Int) % 18446744073709551616 = _; omega
        rw [if_neg (by omega), if_neg hs, eu]
        have := num_f (x.f2.size : Int) 4 k (by omega) (by omega) (by decide) hk
        rw [show ((4 : Nat) : Int) = 4 from rfl] at this
        rw [this]
        simp only [Option.bind_some]
        rw [if_pos (by rw [strOfNums_size, beI_length]; omega), son_append, son_bytes]
    · rw [if_neg h1, if_neg h1]
  · rw [if_neg h4]
    by_cases hr : 1 ≤ x.f0 ∧ x.f0 ≤ 3
    · have ew : carillonref01_width.f x.f0 = some ((widthI x.f0 : Nat) : Int) ∧ 1 ≤ widthI x.f0 ∧ widthI x.f0 ≤ 8 := by
        have : x.f0 = 1 ∨ x.f0 = 2 ∨ x.f0 = 3 := by omega
        rcases this with h | h | h <;> rw [h] <;> exact ⟨rfl, by decide, by decide⟩
      obtain ⟨e1, e2, e3⟩ := ew
      rw [e1, if_pos hr]
      simp only [Option.bind_some]
      rw [if_neg (by omega), if_pos (by omega)]
      by_cases h2 : x.f2.toList = ([] : List UInt8)
      · rw [if_pos h2, if_pos h2]
        have en := num_f x.f1 (widthI x.f0) k w0 w1 e3 hk
        by_cases h8 : widthI x.f0 = 8
        · rw [if_neg (by omega), if_pos (.inl (by omega)), en]
          rfl
        · have es : shr .u64 x.f1 (wrap64 (8 * ((widthI x.f0 : Nat) : Int))) = x.f1 / 256 ^ widthI x.f0 := by
            rw [wrap64_id (by omega) (by omega)]
            unfold shr
            have : (8 * ((widthI x.f0 : Nat) : Int)).toNat = 8 * widthI x.f0 := by omega
            rw [this, Nat.min_eq_left (by show 8 * widthI x.f0 ≤ 64; omega), Int.pow_mul]
            rfl
          rw [if_pos (by omega), if_pos (by rw [wrap64_id] <;> omega), es]
          by_cases h0 : x.f1 / 256 ^ widthI x.f0 = 0
          · rw [if_pos h0, if_pos (.inr h0), en]
            rfl
          · rw [if_neg h0, if_neg (by rintro (h | h) <;> omega)]
      · rw [if_neg h2, if_neg h2]
    · have ew : carillonref01_width.f x.f0 = some 0 := by
        unfold carillonref01_width.f
        rw [if_neg (by omega), if_neg (by omega), if_neg (by omega)]
      rw [ew, if_neg hr]
      simp only [Option.bind_some]
      rw [if_pos trivial, if_neg h4]
theorem renc_loop (l : List S50) (hl : l.length ≤ 1000) (hw : ∀ x ∈ l, WfI x) (d : Nat) : ∀ (i : Nat) (acc : List Int) (k : Nat), i + d = l.length → acc.length ≤ i * 100004 → d + 12 ≤ k →
    carillonref01_Encode.l0 k l (strOfNums acc) (i : Int) = some (match encAll (l.drop i) with
      | .error e => (⟨#[]⟩, e)
      | .ok m => (strOfNums (acc ++ m), 0)) := by
  induction d with
  | zero =>
    intro i acc k hi ha hk
    obtain ⟨k, rfl⟩ : ∃ m, k = m + 1 := ⟨k - 1, by omega⟩
    simp only [carillonref01_Encode.l0]
    rw [if_neg (by omega), List.drop_of_length_le (by omega)]
    simp [encAll]
  | succ d ih =>
    intro i acc k hi ha hk
    obtain ⟨k, rfl⟩ : ∃ m, k = m + 1 := ⟨k - 1, by omega⟩
    have hlt : i < l.length := by omega
    have ew : wrap64 ((i : Int) + 1) = ((i + 1 : Nat) : Int) := by rw [wrap64_id] <;> omega
    rw [List.drop_eq_getElem_cons hlt]
    simp only [carillonref01_Encode.l0]
    have hx := hw _ (List.getElem_mem hlt)
    rw [if_pos (by omega), if_pos (by omega), rdT_nat l i hlt, ew, one_is _ hx k (by omega)]
    simp only [Option.bind_some, encAll]
    cases he : encOne l[i] with
    | error e =>
      simp only
      have : e ≠ 0 := by
        unfold encOne at he
        split at he
        · split at he
          · split at he
            · cases he; decide
            · cases he
          · cases he; decide
        · split at he
          · split at he
            · split at he
              · cases he
              · cases he; decide
            · cases he; decide
          · cases he; decide
      rw [if_neg this]
    | ok b =>
      have hb := encOne_len he
      simp only [if_true]
      rw [if_pos (by rw [strOfNums_size, strOfNums_size]; omega), ← son_append, ih (i + 1) (acc ++ b) k (by omega) (by simp; omega) (by omega)]
      cases encAll (l.drop (i + 1)) <;> simp
/-- The document's Encode, at every list of items. -/
theorem rencode_is (l : List S50) (hw : ∀ x ∈ l, WfI x) (k : Nat) (hk : 1012 ≤ k) : carillonref01_Encode.f k l = some (encS l) := by
  unfold carillonref01_Encode.f encS
  by_cases h : 1000 < l.length
  · rw [if_pos (by omega), if_pos h]
  · rw [if_neg (by omega), if_neg h]
    have := renc_loop l (by omega) hw l.length 0 [] k (by omega) (by simp) (by omega)
    rw [List.drop_zero] at this
    exact this
theorem ref_bits (x1 : ByteArray) (i : Nat) (hi : i < x1.size) (n : Nat) : ∀ (j u k : Nat), j + n = 8 → u < 4294967296 →
    carillonref02_More.l1 (k + n + 1) x1 (u : Int) (i : Int) (j : Int) = carillonref02_More.l0 k x1 ((bitsN n u ((x1.data.toList.getD i 0).toNat / 2 ^ j) : Nat) : Int) (wrap64 ((i : Int) + 1)) := by
  induction n with
  | zero =>
    intro j u k hj hu
    obtain rfl : j = 8 := by omega
    rw [carillonref02_More.l1, if_neg (by decide)]
    rfl
  | succ n ih =>
    intro j u k hj hu
    have hjj : (j : Int) < 8 := by omega
    rw [show k + (n + 1) + 1 = (k + n + 1) + 1 by omega]
    rw [carillonref02_More.l1, if_pos hjj, if_pos (by omega), if_pos (by omega), if_pos (by omega), bt_nat, shr8 _ _ (by omega)]
    have hw : wrap64 ((j : Int) + 1) = ((j + 1 : Nat) : Int) := by unfold wrap64; omega
    have hd : Int.tdiv (u : Int) 2 = ((u / 2 : Nat) : Int) := by rw [Int.tdiv_eq_ediv_of_nonneg (by omega)]; rfl
    have hm : Int.tmod (u : Int) 2 = ((u % 2 : Nat) : Int) := by rw [Int.tmod_eq_emod_of_nonneg (by omega)]; rfl
    have hdm : ((u / 2 : Nat) : Int) % 4294967296 = ((u / 2 : Nat) : Int) := by omega
    generalize hc : (x1.data.toList.getD i 0).toNat = c
    have hc8 : c < 256 := by rw [← hc]; exact UInt8.toNat_lt _
    have hcj : c / 2 ^ j < 256 := Nat.lt_of_le_of_lt (Nat.div_le_self _ _) hc8
    have ih' := ih (j + 1) (bitst u (c / 2 ^ j % 2)) k (by omega) (by
      unfold bitst
      split
      · exact Nat.xor_lt_two_pow (n := 32) (by omega) (by decide)
      · omega)
    rw [hc] at ih'
    rw [hw, hd, hm, hdm]
    have hbit : (((c / 2 ^ j : Nat) : Int) % 4294967296 % 2 = ((u % 2 : Nat) : Int)) ↔ c / 2 ^ j % 2 = u % 2 := by omega
    simp only [bitsN]
    rw [Nat.div_div_eq_div_mul, ← Nat.pow_succ]
    by_cases hb : c / 2 ^ j % 2 = u % 2
    · rw [if_pos (hbit.2 hb), ← ih']
      unfold bitst
      rw [if_neg (by simpa using hb)]
    · rw [if_neg (fun h => hb (hbit.1 h)), ← ih']
      unfold bitst
      rw [if_pos hb]
      rw [show Go.bits .xor .u32 ((u / 2 : Nat) : Int) 2197175160 = ((u / 2 ^^^ 2197175160 : Nat) : Int) from u32_xor_nat (u / 2) 2197175160 (by omega) (by decide)]
theorem ref_bytes (x1 : ByteArray) (hs : x1.size ≤ 9223372036854775807) (n : Nat) : ∀ (i u k : Nat), i + n = x1.size → u < 4294967296 →
    carillonref02_More.l0 (k + 10 * n + 1) x1 (u : Int) (i : Int) = some ((4294967295 ^^^ crcFoldN u (x1.data.toList.drop i) : Nat) : Int) := by
  have hl : x1.data.toList.length = x1.size := by rw [Array.length_toList]; rfl
  induction n with
  | zero =>
    intro i u k hi hu
    rw [carillonref02_More.l0, if_neg (by omega), List.drop_of_length_le (by omega)]
    rw [show Go.bits .xor .u32 (u : Int) 4294967295 = ((u ^^^ 4294967295 : Nat) : Int) from u32_xor_nat u 4294967295 hu (by decide), Nat.xor_comm]
    rfl
  | succ n ih =>
    intro i u k hi hu
    rw [show k + 10 * (n + 1) + 1 = ((k + 10 * n + 1) + 8 + 1) + 1 by omega]
    rw [carillonref02_More.l0, if_pos (by omega)]
    have h := ref_bits x1 i (by omega) 8 0 u (k + 10 * n + 1) (by omega) hu
    rw [show ((0 : Nat) : Int) = 0 from rfl] at h
    rw [h, Nat.pow_zero, Nat.div_one]
    have hw : wrap64 ((i : Int) + 1) = ((i + 1 : Nat) : Int) := by unfold wrap64; omega
    have hc8 : (x1.data.toList.getD i 0).toNat < 256 := UInt8.toNat_lt _
    rw [hw, bitsN_byte _ _ hc8, ← crcByteN_is, ih (i + 1) _ k (by omega) (crcByteN_lt hu hc8)]
    rw [List.drop_eq_getElem_cons (i := i) (by omega)]
    have e : x1.data.toList[i]'(by omega) = x1.data.toList.getD i 0 := by rw [List.getD_eq_getElem?_getD, List.getElem?_eq_getElem (by omega)]; rfl
    rw [e]
    rfl
/-- The document's sum is the program's. -/
theorem ref_more (a0 : Int) (a1 : ByteArray) (h0 : 0 ≤ a0) (h1 : a0 < 4294967296) (hs : a1.size ≤ 9223372036854775807) : ∀ k, 10 * a1.size + 1 ≤ k → carillonref02_More.f k a0 a1 = crc_More.f a0 a1 := by
  intro k hk
  obtain ⟨m, rfl⟩ : ∃ m, k = m + 10 * a1.size + 1 := ⟨k - 10 * a1.size - 1, by omega⟩
  obtain ⟨n0, rfl⟩ : ∃ n0 : Nat, a0 = (n0 : Int) := ⟨a0.toNat, by omega⟩
  unfold carillonref02_More.f crc_More.f
  rw [if_pos ⟨h0, h1, hs⟩]
  rw [show Go.bits .xor .u32 (n0 : Int) 4294967295 = ((n0 ^^^ 4294967295 : Nat) : Int) from u32_xor_nat n0 4294967295 (by omega) (by decide)]
  have h := ref_bytes a1 hs a1.size 0 (n0 ^^^ 4294967295) m (by omega) (Nat.xor_lt_two_pow (n := 32) (by omega) (by decide))
  rw [show ((0 : Nat) : Int) = 0 from rfl] at h
  rw [h, List.drop_zero, Nat.xor_comm n0]
  rfl
theorem crnum_is (s : ByteArray) (h : 4 ≤ s.size) : carillonref02_value.f s = some ((num4 (ls s) : Nat) : Int) := cnum_is s h
theorem rsum_zero (s : ByteArray) (h : s.size ≤ 9223372036854775807) (k : Nat) (hk : 10 * s.size + 1 ≤ k) : carillonref02_Sum.f k s = some ((sum0 (ls s) : Nat) : Int) := by
  unfold carillonref02_Sum.f
  rw [ref_more 0 s (by omega) (by omega) h k hk]
  exact sum_zero s h
theorem rframe_is (b : ByteArray) (k : Nat) (hk : 4000100 ≤ k) : carillonref02_Frame.f k b = some (if (b.size : Int) > 400000 then ((⟨#[]⟩ : ByteArray), false) else (frame b, true)) := by
  unfold carillonref02_Frame.f
  by_cases h : (b.size : Int) > 400000
  · rw [if_pos h, if_pos h]
  · rw [if_neg h, if_neg h]
    have e0 : ((b.size : Int)) % 4294967296 = ((b.size : Nat) : Int) := by omega
    rw [e0]
    have hw : carillonref02_word.f ((b.size : Nat) : Int) = some (word b.size) := rfl
    have hz : (word b.size ++ b).size = 4 + b.size := by rw [ByteArray.size_append, word_size]
    have hs : carillonref02_Sum.f k (word b.size ++ b) = some ((sumOf (word4 b.size) (ls b) : Nat) : Int) := by
      rw [rsum_zero _ (by omega) k (by omega), ls_append, word_bytes, sum0_append]
    have hw2 : carillonref02_word.f ((sumOf (word4 b.size) (ls b) : Nat) : Int) = some (word (sumOf (word4 b.size) (ls b))) := by
      generalize sumOf (word4 b.size) (ls b) = q
      rfl
    rw [hw, Option.bind_some, if_pos (by rw [word_size]; omega), hs, Option.bind_some, hw2, Option.bind_some]
    rw [if_pos (by rw [word_size, word_size]; omega), if_pos (by rw [ByteArray.size_append, word_size, word_size]; omega)]
    unfold frame
    exact Eq.refl _
theorem crtake_is (s : ByteArray) (hs : s.size ≤ 9223372036854775807) (k : Nat) (hk : 4000100 ≤ k) : carillonref02_Take.f k s = some (takeV s) := by
  unfold carillonref02_Take.f takeV
  by_cases h4 : s.size < 4
  · rw [if_pos (by omega), if_pos h4]
  · have z4 : (s.extract 0 4).size = 4 := by rw [← ls_len, ls_extract, List.length_take, List.length_drop, ls_len]; omega
    have v4 : carillonref02_value.f (s.extract 0 4) = some ((num4 (ls s) : Nat) : Int) := by
      rw [crnum_is _ (by omega), ls_extract, List.drop_zero, num4_take _ _ (by omega)]
    rw [if_neg (by omega), if_neg h4, if_pos (by omega), if_pos (by omega), v4, Option.bind_some]
    have hn := num4_lt (ls s)
    generalize hn4 : num4 (ls s) = n at *
    by_cases h5 : 400000 < n
    · rw [if_pos (by omega), if_pos h5]
    · rw [if_neg (by omega), if_neg h5]
      have w5 : wrap64 (n : Int) = (n : Int) := by unfold wrap64; omega
      have w6 : wrap64 (8 + (n : Int)) = ((8 + n : Nat) : Int) := by unfold wrap64; omega
      rw [w5, w6]
      by_cases h6 : s.size < 8 + n
      · rw [if_pos (by omega), if_pos h6]
      · rw [if_neg (by omega), if_neg h6]
        have z8 : (s.extract 4 8).size = 4 := by rw [← ls_len, ls_extract, List.length_take, List.length_drop, ls_len]; omega
        have v8 : carillonref02_value.f (s.extract 4 8) = some ((num4 ((ls s).drop 4) : Nat) : Int) := by
          rw [crnum_is _ (by omega), ls_extract, num4_take _ _ (by omega)]
        rw [if_pos (by omega), if_pos (by omega), v8, Option.bind_some, if_pos (by omega), if_pos (by omega)]
        rw [show (((8 + n : Nat) : Int)).toNat = 8 + n from rfl]
        have e8 : (s.extract 8 (8 + n)).size ≤ n := by rw [← ls_len, ls_extract, List.length_take]; omega
        have hz : ((s.extract 0 4) ++ (s.extract 8 (8 + n))).size = 4 + (s.extract 8 (8 + n)).size := by rw [ByteArray.size_append, z4]
        have hsum : carillonref02_Sum.f k ((s.extract 0 4) ++ (s.extract 8 (8 + n))) = some ((sumOf ((ls s).take 4) (((ls s).drop 8).take n) : Nat) : Int) := by
          rw [rsum_zero _ (by omega) k (by omega), ls_append, ls_extract, ls_extract, sum0_append, List.drop_zero, show 8 + n - 8 = n by omega]
        rw [if_pos (by omega), hsum, Option.bind_some]
        by_cases h7 : sumOf ((ls s).take 4) (((ls s).drop 8).take n) = num4 ((ls s).drop 4)
        · rw [if_pos (by rw [h7]), if_pos h7]
        · rw [if_neg (fun h => h7 (Int.ofNat_inj.1 h).symm), if_neg h7]
theorem rrightF_is (f : SF) : carillonref09_Right.f f.f0 f.f1 f.f2 f.f3 f.f4 = some (decide (RightF f)) := by
  obtain ⟨f0, f1, f2, f3, f4⟩ := f
  unfold carillonref09_Right.f
  dsimp only
  have no : ∀ h : ¬ RightF ⟨f0, f1, f2, f3, f4⟩, some false = some (decide (RightF ⟨f0, f1, f2, f3, f4⟩)) := fun h => by rw [decide_eq_false h]
  have tox : ∀ {p : Prop} [Decidable p] {x : Option Bool}, (¬ p → ¬ RightF ⟨f0, f1, f2, f3, f4⟩) → (p → x = some (decide (RightF ⟨f0, f1, f2, f3, f4⟩))) → (if p then x else some false) = some (decide (RightF ⟨f0, f1, f2, f3, f4⟩)) := by
    intro p _ x h1 h2
    by_cases hp : p
    · rw [if_pos hp]; exact h2 hp
    · rw [if_neg hp]; exact no (h1 hp)
  refine tox (fun h hr => h hr.1) (fun c0 => tox (fun h hr => h hr.2.1) (fun c1 => tox (fun h hr => h hr.2.2.1) (fun c2 => tox (fun h hr => h hr.2.2.2.1) (fun c3 => tox (fun h hr => h hr.2.2.2.2.1) (fun c4 => tox (fun h hr => h hr.2.2.2.2.2.1) (fun c5 => tox (fun h hr => h hr.2.2.2.2.2.2.1) (fun c6 => tox (fun h hr => h hr.2.2.2.2.2.2.2.1) (fun c7 => tox (fun h hr => h hr.2.2.2.2.2.2.2.2.1) (fun c8 => ?_)))))))))
  by_cases c9 : f2 = 0
  · rw [if_pos c9]
    have key : (f4.toList == ([] : List UInt8)) = decide (f4.toList = []) := by cases h : f4.toList <;> simp
    rw [key]
    congr 1
    rw [decide_eq_decide]
    exact ⟨fun h => ⟨c0, c1, c2, c3, c4, c5, c6, c7, c8, fun _ => h⟩, fun h => h.2.2.2.2.2.2.2.2.2 c9⟩
  · rw [if_neg c9, decide_eq_true (show RightF ⟨f0, f1, f2, f3, f4⟩ from ⟨c0, c1, c2, c3, c4, c5, c6, c7, c8, fun e => absurd e c9⟩)]
theorem rlenc_is (r : SF) (k : Nat) (hk : 4000100 ≤ k) : carillonref09_Encode.f k r.f0 r.f1 r.f2 r.f3 r.f4 = some (if RightF r then (frame (frmB r), true) else (⟨#[]⟩, false)) := by
  unfold carillonref09_Encode.f
  rw [rrightF_is]
  simp only [Option.bind_some]
  by_cases h : RightF r
  · obtain ⟨a0, a1, a2, a3, a4⟩ := rightF_all h
    rw [if_pos (decide_eq_true h), if_pos h, wrapU64 (by omega) (by omega), wrapU64 (by omega) (by omega), wrapU64 (by omega) (by omega), wrapU64 (by omega) (by omega)]
    have he := rencode_is (fItems r) (fItems_wf h) k (by omega)
    rw [fItems_encS h] at he
    have he2 : carillonref01_Encode.f k [(⟨3, r.f0, ⟨#[]⟩⟩ : SI), ⟨3, r.f1, ⟨#[]⟩⟩, ⟨3, r.f2, ⟨#[]⟩⟩, ⟨3, r.f3, ⟨#[]⟩⟩, ⟨4, 0, r.f4⟩] = some (frmB r, 0) := he
    rw [he2]
    simp only [Option.bind_some]
    have := frmB_le h
    rw [rframe_is _ k hk, if_neg (by omega)]
    rfl
  · rw [if_neg (by simpa using h), if_neg h]
theorem rl0_bad (l : List SI) (hl : l.length = 5) (hm : ∃ i, i < 4 ∧ (rd_T50 l ((i : Nat) : Int)).f1 > 9007199254740991) : ∀ (n i k : Nat), i + n = 4 → n < k → (∀ j, j < i → ¬ (rd_T50 l ((j : Nat) : Int)).f1 > 9007199254740991) → carillonref09_Decode.l0 k l (i : Int) = some (0, 0, 0, 0, ⟨#[]⟩, 10)
  | 0, i, k, hi, hk, hb => by
    obtain ⟨j, hj, hm⟩ := hm
    exact absurd hm (hb j (by omega))
  | n + 1, i, k, hi, hk, hb => by
    obtain ⟨k, rfl⟩ : ∃ q, k = q + 1 := ⟨k - 1, by omega⟩
    unfold carillonref09_Decode.l0
    rw [if_pos (by omega), if_pos (by omega), if_pos (by rw [hl]; omega)]
    by_cases hx : (rd_T50 l (i : Int)).f1 > 9007199254740991
    · rw [if_pos hx]
    · rw [if_neg hx, show wrap64 ((i : Int) + 1) = ((i + 1 : Nat) : Int) by unfold wrap64; omega]
      exact rl0_bad l hl hm n (i + 1) k (by omega) (by omega) (fun j hj => by
        by_cases e : j = i
        · rw [e]; exact hx
        · exact hb j (by omega))
theorem rl0_good (l : List SI) (hl : l.length = 5) (hg : ∀ j, j < 4 → ¬ (rd_T50 l ((j : Nat) : Int)).f1 > 9007199254740991) : ∀ (n i k : Nat), i + n = 4 → n < k → ∃ q, carillonref09_Decode.l0 k l (i : Int) = carillonref09_Decode.l0 (q + 1) l 4
  | 0, i, k, hi, hk => by
    obtain ⟨k, rfl⟩ : ∃ q, k = q + 1 := ⟨k - 1, by omega⟩
    have : i = 4 := by omega
    subst this
    exact ⟨k, rfl⟩
  | n + 1, i, k, hi, hk => by
    obtain ⟨k, rfl⟩ : ∃ q, k = q + 1 := ⟨k - 1, by omega⟩
    obtain ⟨q, hq⟩ := rl0_good l hl hg n (i + 1) k (by omega) (by omega)
    refine ⟨q, ?_⟩
    rw [← hq]
    rw [carillonref09_Decode.l0, if_pos (by omega), if_pos (by omega), if_pos (by rw [hl]; omega), if_neg (hg i (by omega)), show wrap64 ((i : Int) + 1) = ((i + 1 : Nat) : Int) by unfold wrap64; omega]
theorem rldec_is (s : ByteArray) (hs : s.size ≤ 140737488351232) (k : Nat) (hk : 4000100 ≤ k) : carillonref09_Decode.f k s = some ((lnkV s).1.f0, (lnkV s).1.f1, (lnkV s).1.f2, (lnkV s).1.f3, (lnkV s).1.f4, (lnkV s).2) := by
  unfold carillonref09_Decode.f
  rw [crtake_is s (by omega) k hk]
  simp only [Option.bind_some]
  have htt := take_tells s
  unfold lnkV
  by_cases h0 : (takeV s).2.2 = 0
  case neg =>
    rw [if_neg h0, if_pos h0]
    rfl
  rw [if_pos h0, if_neg (fun h => h h0)]
  have hbs : (takeV s).1.size ≤ 140737488351232 := by
    rcases htt with ⟨_, _, h⟩ | ⟨h, _⟩
    · omega
    · exact absurd h0 h
  generalize (takeV s).1 = b at hbs ⊢
  rw [rdecode_is _ b (by decide) hbs k (by omega)]
  simp only [Option.bind_some]
  by_cases h : (decodeS [108, 108, 108, 108, 116] b).2 = 0
  case neg =>
    have hv : frmV b = (zF, 10) := by unfold frmV; rw [if_neg (fun hc => h hc.1)]
    rw [hv]
    rw [show (decodeS (⟨#[108, 108, 108, 108, 116]⟩ : ByteArray).data.toList b).2 = (decodeS [108, 108, 108, 108, 116] b).2 from rfl, if_neg h]
    split <;> rfl
  obtain ⟨l, hd⟩ : ∃ l, decodeS [108, 108, 108, 108, 116] b = (l, 0) := ⟨_, Prod.ext rfl h⟩
  obtain ⟨v0, v1, v2, v3, t4, rfl, p0, p1, p2, p3, _⟩ := frm_items (by omega) hd
  have hrv : frmV b = if RightF ⟨v0, v1, v2, v3, t4⟩ then (⟨v0, v1, v2, v3, t4⟩, 0) else (zF, 10) := by
    unfold frmV
    rw [hd]
    dsimp only
    by_cases hr : RightF ⟨v0, v1, v2, v3, t4⟩
    · rw [if_pos hr, if_pos ⟨rfl, hr⟩]; rfl
    · rw [if_neg hr, if_neg (fun hc => hr hc.2)]
  rw [show decodeS (⟨#[108, 108, 108, 108, 116]⟩ : ByteArray).data.toList b = ([⟨3, v0, ⟨#[]⟩⟩, ⟨3, v1, ⟨#[]⟩⟩, ⟨3, v2, ⟨#[]⟩⟩, ⟨3, v3, ⟨#[]⟩⟩, ⟨4, 0, t4⟩], 0) from hd]
  dsimp only
  rw [if_pos rfl]
  by_cases hsz : (takeV s).2.1 = (s.size : Int)
  case neg => rw [if_neg hsz, if_neg hsz]; rfl
  rw [if_pos hsz, if_pos hsz, hrv]
  have r0 : rd_T50 [(⟨3, v0, ⟨#[]⟩⟩ : SI), ⟨3, v1, ⟨#[]⟩⟩, ⟨3, v2, ⟨#[]⟩⟩, ⟨3, v3, ⟨#[]⟩⟩, ⟨4, 0, t4⟩] 0 = ⟨3, v0, ⟨#[]⟩⟩ := rfl
  have r1 : rd_T50 [(⟨3, v0, ⟨#[]⟩⟩ : SI), ⟨3, v1, ⟨#[]⟩⟩, ⟨3, v2, ⟨#[]⟩⟩, ⟨3, v3, ⟨#[]⟩⟩, ⟨4, 0, t4⟩] 1 = ⟨3, v1, ⟨#[]⟩⟩ := rfl
  have r2 : rd_T50 [(⟨3, v0, ⟨#[]⟩⟩ : SI), ⟨3, v1, ⟨#[]⟩⟩, ⟨3, v2, ⟨#[]⟩⟩, ⟨3, v3, ⟨#[]⟩⟩, ⟨4, 0, t4⟩] 2 = ⟨3, v2, ⟨#[]⟩⟩ := rfl
  have r3 : rd_T50 [(⟨3, v0, ⟨#[]⟩⟩ : SI), ⟨3, v1, ⟨#[]⟩⟩, ⟨3, v2, ⟨#[]⟩⟩, ⟨3, v3, ⟨#[]⟩⟩, ⟨4, 0, t4⟩] 3 = ⟨3, v3, ⟨#[]⟩⟩ := rfl
  have r4 : rd_T50 [(⟨3, v0, ⟨#[]⟩⟩ : SI), ⟨3, v1, ⟨#[]⟩⟩, ⟨3, v2, ⟨#[]⟩⟩, ⟨3, v3, ⟨#[]⟩⟩, ⟨4, 0, t4⟩] 4 = ⟨4, 0, t4⟩ := rfl
  have hx : ∀ j : Nat, j < 4 → (rd_T50 [(⟨3, v0, ⟨#[]⟩⟩ : SI), ⟨3, v1, ⟨#[]⟩⟩, ⟨3, v2, ⟨#[]⟩⟩, ⟨3, v3, ⟨#[]⟩⟩, ⟨4, 0, t4⟩] ((j : Nat) : Int)).f1 = if j = 0 then v0 else if j = 1 then v1 else if j = 2 then v2 else v3 := by
    intro j hj
    obtain rfl | rfl | rfl | rfl : j = 0 ∨ j = 1 ∨ j = 2 ∨ j = 3 := by omega
    · exact congrArg (·.f1) r0
    · exact congrArg (·.f1) r1
    · exact congrArg (·.f1) r2
    · exact congrArg (·.f1) r3
  obtain ⟨K, hK⟩ : ∃ K, k = K := ⟨_, rfl⟩
  by_cases hm : v0 > 9007199254740991 ∨ v1 > 9007199254740991 ∨ v2 > 9007199254740991 ∨ v3 > 9007199254740991
  · have := rl0_bad [(⟨3, v0, ⟨#[]⟩⟩ : SI), ⟨3, v1, ⟨#[]⟩⟩, ⟨3, v2, ⟨#[]⟩⟩, ⟨3, v3, ⟨#[]⟩⟩, ⟨4, 0, t4⟩] rfl (by
      rcases hm with hm | hm | hm | hm
      · exact ⟨0, by omega, by rw [hx 0 (by omega)]; exact hm⟩
      · exact ⟨1, by omega, by rw [hx 1 (by omega)]; exact hm⟩
      · exact ⟨2, by omega, by rw [hx 2 (by omega)]; exact hm⟩
      · exact ⟨3, by omega, by rw [hx 3 (by omega)]; exact hm⟩) 4 0 k rfl (by omega) (fun j hj => by omega)
    rw [show ((0 : Nat) : Int) = 0 from rfl] at this
    rw [this, if_neg (fun h => by obtain ⟨a0, a1, a2, a3, a4⟩ := rightF_all h; dsimp only at a0 a1 a2 a3; omega)]
    rfl
  · obtain ⟨q, hq⟩ := rl0_good [(⟨3, v0, ⟨#[]⟩⟩ : SI), ⟨3, v1, ⟨#[]⟩⟩, ⟨3, v2, ⟨#[]⟩⟩, ⟨3, v3, ⟨#[]⟩⟩, ⟨4, 0, t4⟩] rfl (fun j hj => by rw [hx j hj]; (repeat' split) <;> omega) 4 0 k rfl (by omega)
    rw [show ((0 : Nat) : Int) = 0 from rfl] at hq
    rw [hq, carillonref09_Decode.l0, if_neg (by decide), r0, r1, r2, r3, r4, if_pos (by simp), if_pos (by simp), if_pos (by simp), if_pos (by simp), if_pos (by simp)]
    dsimp only
    rw [show wrap64 v0 = v0 by unfold wrap64; omega, show wrap64 v1 = v1 by unfold wrap64; omega, show wrap64 v2 = v2 by unfold wrap64; omega, show wrap64 v3 = v3 by unfold wrap64; omega]
    rw [show carillonref09_Right.f v0 v1 v2 v3 t4 = some (decide (RightF ⟨v0, v1, v2, v3, t4⟩)) from rrightF_is ⟨v0, v1, v2, v3, t4⟩]
    simp only [Option.bind_some]
    by_cases hr : RightF ⟨v0, v1, v2, v3, t4⟩
    · rw [if_pos (decide_eq_true hr), if_pos hr]
    · rw [if_neg (by simpa using hr), if_neg hr]
      rfl
end Go.Proofs.YtdpogggajdfedaaDoor.P
