/- The document's Decode comes to the same reading. -/
import Derived.Test.YtmjgifhgodgghaaDoorPx10
import Derived.Test.YtmjgifhgodgghaaDoorPx11
import Derived.Test.YtmjgifhgodgghaaDoorPx12
import Derived.Test.YtmjgifhgodgghaaDoorPx14
import Derived.Test.YtmjgifhgodgghaaDoorPx15
import Derived.Test.YtmjgifhgodgghaaDoorPx16
import Derived.Test.YtmjgifhgodgghaaDoorPx17
import Derived.Test.YtmjgifhgodgghaaDoorPx25
import Derived.Test.YtmjgifhgodgghaaDoorPx26
import Derived.Test.YtmjgifhgodgghaaDoorPx32
import Derived.Test.YtmjgifhgodgghaaDoorPx6
import Derived.Test.YtmjgifhgodgghaaDoorPlainH
namespace Go.Proofs.YtmjgifhgodgghaaDoor.P
open Go.RowKit Go.Proofs.YtmjgifhgodgghaaDoorW.PrintWords Go.Proofs.YtmjgifhgodgghaaDoorW.PrintLast Go.Proofs.YtmjgifhgodgghaaDoorW.PrintMore
set_option linter.unusedSimpArgs false
set_option linter.unusedVariables false
set_option maxRecDepth 100000
theorem u8_nat {c : UInt8} {n : Nat} (h : n < 256) : ((c.toNat : Nat) : Int) = (n : Int) ↔ c = n.toUInt8 := by
  constructor
  · intro e
    have : c.toNat = n := by omega
    rw [← this]
    simp
  · rintro rfl
    simp
    omega
theorem kindOf_is (c : UInt8) : carillonref01_kindOf.f ((c.toNat : Nat) : Int) = some (kindI c) := by
  unfold carillonref01_kindOf.f kindI
  have e1 : (((c.toNat : Nat) : Int) = 98) = (c = 98) := propext (u8_nat (n := 98) (by decide))
  have e2 : (((c.toNat : Nat) : Int) = 119) = (c = 119) := propext (u8_nat (n := 119) (by decide))
  have e3 : (((c.toNat : Nat) : Int) = 108) = (c = 108) := propext (u8_nat (n := 108) (by decide))
  have e4 : (((c.toNat : Nat) : Int) = 116) = (c = 116) := propext (u8_nat (n := 116) (by decide))
  simp only [e1, e2, e3, e4]
  repeat' split <;> simp_all
theorem kind_star : kindI 42 = 0 := by decide
theorem drop_step (s : ByteArray) (i : Nat) (h : i < s.size) : s.data.toList.drop i = s.data.toList.getD i 0 :: s.data.toList.drop (i + 1) := by
  rw [List.drop_eq_getElem_cons (by rw [data_len]; exact h), List.getD_eq_getElem?_getD, List.getElem?_eq_getElem (by rw [data_len]; exact h)]
  rfl
theorem kinds_tail (a0 : ByteArray) (hz : a0.size ≤ 1048576) (a : List Int) (d : Nat) : ∀ (i : Nat) (b : List Int) (k : Nat), i + d = a0.size → b.length ≤ i → d < k →
    carillonref01_kinds.l0 k a0 a b true (i : Int) = some (if (a0.data.toList.drop i).all letB then (a, b ++ (a0.data.toList.drop i).map kindI, decide (0 < (b ++ (a0.data.toList.drop i).map kindI).length)) else ([], [], false)) := by
  induction d with
  | zero =>
    intro i b k hi hb hk
    obtain ⟨k, rfl⟩ : ∃ m, k = m + 1 := ⟨k - 1, by omega⟩
    rw [List.drop_of_length_le (by rw [data_len]; omega)]
    simp only [carillonref01_kinds.l0]
    rw [if_neg (by omega), if_pos trivial]
    simp
  | succ d ih =>
    intro i b k hi hb hk
    obtain ⟨k, rfl⟩ : ∃ m, k = m + 1 := ⟨k - 1, by omega⟩
    have hlt : i < a0.size := by omega
    obtain ⟨c, hc⟩ : ∃ c, a0.data.toList.getD i 0 = c := ⟨_, rfl⟩
    rw [drop_step a0 i hlt, hc]
    simp only [carillonref01_kinds.l0]
    have ew : wrap64 ((i : Int) + 1) = ((i + 1 : Nat) : Int) := by rw [wrap64_id] <;> omega
    rw [if_pos (by omega), if_pos (by omega), bt_get a0 i hlt, hc, kindOf_is]
    simp only [Option.bind_some, if_true, List.all_cons, List.map_cons]
    have hr := kindI_range c
    by_cases h0 : kindI c = 0
    · have hf : letB c = false := by rw [Bool.eq_false_iff]; intro h; have := (letB_iff c).1 h; omega
      simp only [h0, if_true, hf, Bool.false_and]
      split <;> rfl
    · have hf : letB c = true := (letB_iff c).2 (by omega)
      have hn : ¬ (((c.toNat : Nat) : Int) = 42) := fun h => h0 (by have := (u8_nat (n := 42) (by decide)).1 h; rw [this]; decide)
      rw [if_neg hn, if_neg h0, if_pos (by omega), ew, ih (i + 1) (b ++ [kindI c]) k (by omega) (by simp; omega) (by omega), hf, Bool.true_and]
      simp
theorem kinds_head (a0 : ByteArray) (hz : a0.size ≤ 1048576) (d : Nat) : ∀ (i : Nat) (a : List Int) (k : Nat), i + d = a0.size → a.length ≤ i → d < k →
    ((42 : UInt8) ∉ a0.data.toList.drop i → carillonref01_kinds.l0 k a0 a [] false (i : Int) = some (if (a0.data.toList.drop i).all letB then (a ++ (a0.data.toList.drop i).map kindI, [], true) else ([], [], false))) ∧
    (∀ hd tl, a0.data.toList.drop i = hd ++ 42 :: tl → (42 : UInt8) ∉ hd → carillonref01_kinds.l0 k a0 a [] false (i : Int) = some (if (hd ++ tl).all letB then (a ++ hd.map kindI, tl.map kindI, !tl.isEmpty) else ([], [], false))) := by
  induction d with
  | zero =>
    intro i a k hi hb hk
    obtain ⟨k, rfl⟩ : ∃ m, k = m + 1 := ⟨k - 1, by omega⟩
    rw [List.drop_of_length_le (by rw [data_len]; omega)]
    constructor
    · intro _
      simp only [carillonref01_kinds.l0]
      rw [if_neg (by omega), if_neg (by decide)]
      simp
    · intro hd tl h
      cases hd <;> simp at h
  | succ d ih =>
    intro i a k hi hb hk
    obtain ⟨k, rfl⟩ : ∃ m, k = m + 1 := ⟨k - 1, by omega⟩
    have hlt : i < a0.size := by omega
    obtain ⟨c, hc⟩ : ∃ c, a0.data.toList.getD i 0 = c := ⟨_, rfl⟩
    have ew : wrap64 ((i : Int) + 1) = ((i + 1 : Nat) : Int) := by rw [wrap64_id] <;> omega
    have hr := kindI_range c
    have step : carillonref01_kinds.l0 (k + 1) a0 a [] false (i : Int) = if c = 42 then carillonref01_kinds.l0 k a0 a [] true ((i + 1 : Nat) : Int) else if kindI c = 0 then some ([], [], false) else carillonref01_kinds.l0 k a0 (a ++ [kindI c]) [] false ((i + 1 : Nat) : Int) := by
      simp only [carillonref01_kinds.l0]
      rw [if_pos (by omega), if_pos (by omega), bt_get a0 i hlt, hc, kindOf_is]
      simp only [Option.bind_some]
      by_cases h4 : c = 42
      · rw [if_pos (show ((c.toNat : Nat) : Int) = 42 by rw [h4]; rfl), if_pos h4, if_neg (by decide), ew]
      · rw [if_neg (show ¬ ((c.toNat : Nat) : Int) = 42 from fun h => h4 ((u8_nat (n := 42) (by decide)).1 h)), if_neg h4]
        by_cases h0 : kindI c = 0
        · rw [if_pos h0, if_pos h0]
        · rw [if_neg h0, if_neg h0, if_neg (by decide), if_pos (by omega), ew]
    rw [drop_step a0 i hlt, hc, step]
    constructor
    · intro hn
      simp only [List.mem_cons, not_or] at hn
      rw [if_neg (fun h => hn.1 h.symm)]
      simp only [List.all_cons, List.map_cons]
      by_cases h0 : kindI c = 0
      · have hf : letB c = false := by rw [Bool.eq_false_iff]; intro h; have := (letB_iff c).1 h; omega
        rw [if_pos h0, hf]
        rfl
      · have hf : letB c = true := (letB_iff c).2 (by omega)
        rw [if_neg h0, (ih (i + 1) (a ++ [kindI c]) k (by omega) (by simp; omega) (by omega)).1 hn.2, hf, Bool.true_and]
        simp
    · intro hd tl h hn
      cases hd with
      | nil =>
        simp only [List.nil_append, List.cons.injEq] at h
        obtain ⟨rfl, h⟩ := h
        have := kinds_tail a0 hz a d (i + 1) [] k (by omega) (by simp) (by omega)
        rw [if_pos rfl, this, h]
        simp only [List.nil_append, List.map_nil, List.append_nil]
        split
        · cases tl <;> simp
        · rfl
      | cons x hd =>
        simp only [List.cons_append, List.cons.injEq] at h
        obtain ⟨rfl, h⟩ := h
        simp only [List.mem_cons, not_or] at hn
        rw [if_neg (fun h => hn.1 h.symm)]
        simp only [List.cons_append, List.all_cons, List.map_cons]
        by_cases h0 : kindI c = 0
        · have hf : letB c = false := by rw [Bool.eq_false_iff]; intro h; have := (letB_iff c).1 h; omega
          rw [if_pos h0, hf]
          rfl
        · have hf : letB c = true := (letB_iff c).2 (by omega)
          rw [if_neg h0, (ih (i + 1) (a ++ [kindI c]) k (by omega) (by simp; omega) (by omega)).2 hd tl h hn.2, hf, Bool.true_and]
          simp
theorem kinds_is (a0 : ByteArray) (hz : a0.size ≤ 1048576) (k : Nat) (hk : 1048577 ≤ k) : match parseS a0.data.toList with
    | some (a, b) => carillonref01_kinds.f k a0 = some (a, b, true)
    | none => ∃ a b, carillonref01_kinds.f k a0 = some (a, b, false) := by
  unfold carillonref01_kinds.f
  have hh := kinds_head a0 hz a0.size 0 [] k (by omega) (by simp) (by omega)
  rw [List.drop_zero] at hh
  by_cases h : (42 : UInt8) ∈ a0.data.toList
  · obtain ⟨hd, tl, h1, h2⟩ := cut_at _ _ h
    have := hh.2 hd tl h1 h2
    rw [h1, parse_star hd tl h2]
    rw [show ((0 : Nat) : Int) = 0 from rfl] at this
    cases g1 : (hd ++ tl).all letB
    · rw [g1] at this
      exact ⟨_, _, this⟩
    · rw [g1] at this
      cases tl with
      | nil => exact ⟨_, _, this⟩
      | cons x tl => exact this
  · have := hh.1 h
    rw [show ((0 : Nat) : Int) = 0 from rfl] at this
    rw [parse_plain _ h]
    cases g1 : a0.data.toList.all letB
    · rw [g1] at this
      exact ⟨_, _, this⟩
    · rw [g1] at this
      exact this
/-- The document's number of some bytes. -/
theorem value_is (s : ByteArray) (hz : s.size ≤ 8) (d : Nat) : ∀ (i : Nat) (k : Nat), i + d = s.size → d < k → carillonref01_value.l0 k s ((beNat (s.data.toList.take i) : Nat) : Int) (i : Int) = some ((beNat s.data.toList : Nat) : Int) := by
  induction d with
  | zero =>
    intro i k hi hk
    obtain ⟨k, rfl⟩ : ∃ m, k = m + 1 := ⟨k - 1, by omega⟩
    simp only [carillonref01_value.l0]
    rw [if_neg (by omega), List.take_of_length_le (by rw [data_len]; omega)]
  | succ d ih =>
    intro i k hi hk
    obtain ⟨k, rfl⟩ : ∃ m, k = m + 1 := ⟨k - 1, by omega⟩
    have hlt : i < s.size := by omega
    have ew : wrap64 ((i : Int) + 1) = ((i + 1 : Nat) : Int) := by rw [wrap64_id] <;> omega
    simp only [carillonref01_value.l0]
    rw [if_pos (by omega), if_pos (by omega), bt_get s i hlt, ew]
    have hb := beNat_lt (s.data.toList.take i)
    have hp : 256 ^ (s.data.toList.take i).length ≤ 256 ^ 7 := Nat.pow_le_pow_right (by decide) (by rw [List.length_take, data_len]; omega)
    have h7 : (256 : Nat) ^ 7 = 72057594037927936 := by decide
    have hc := (s.data.toList.getD i 0).toNat_lt
    have e := beNat_snoc (s.data.toList.take i) (s.data.toList.getD i 0)
    rw [← take_snocB _ i (by rw [data_len]; exact hlt)] at e
    have ev : IntKind.u64.wrap (IntKind.u64.wrap (256 * ((beNat (s.data.toList.take i) : Nat) : Int)) + IntKind.u64.wrap (((s.data.toList.getD i 0).toNat : Nat) : Int)) = ((beNat (s.data.toList.take (i + 1)) : Nat) : Int) := by
      show ((256 * ((beNat (s.data.toList.take i) : Nat) : Int)) % 18446744073709551616 + (((s.data.toList.getD i 0).toNat : Nat) : Int) % 18446744073709551616) % 18446744073709551616 = _
      rw [e]
      omega
    rw [ev]
    exact ih (i + 1) k (by omega) (by omega)
theorem value_f (s : ByteArray) (hz : s.size ≤ 8) (k : Nat) (hk : 9 ≤ k) : carillonref01_value.f k s = some ((beNat s.data.toList : Nat) : Int) := by
  have := value_is s hz s.size 0 k (by omega) (by omega)
  simpa [carillonref01_value.f, beNat] using this
/-- How many bytes an item has. -/
def takeN (k : Int) (s : ByteArray) : Nat := if k = 4 then 4 + beNat (s.data.toList.take 4) else widthI k
theorem take_rest {k : Int} {s : ByteArray} {x : S60} {s' : ByteArray} (h : takeS k s = .ok (x, s')) : s' = s.extract (takeN k s) s.size ∧ takeN k s ≤ s.size := by
  unfold takeS at h
  unfold takeN
  split at h
  · rename_i h4
    rw [if_pos h4]
    split at h
    · cases h
    · split at h
      · cases h
      · split at h
        · cases h
        · cases h
          exact ⟨rfl, by omega⟩
  · rename_i h4
    rw [if_neg h4]
    split at h
    · cases h
    · cases h
      exact ⟨rfl, by omega⟩
theorem rtake_is (k : Nat) (hk : 9 ≤ k) (κ : Int) (s : ByteArray) (h1 : 1 ≤ κ) (h4 : κ ≤ 4) (hs : s.size ≤ 140737488351232) : carillonref01_take.f k κ s = some (match takeS κ s with
    | .error e => (0, 0, ⟨#[]⟩, 0, e)
    | .ok (x, _) => (x.f0, x.f1, x.f2, ((takeN κ s : Nat) : Int), 0)) := by
  unfold carillonref01_take.f takeS takeN
  have ew : carillonref01_width.f κ = some ((widthI κ : Nat) : Int) := by
    have : κ = 1 ∨ κ = 2 ∨ κ = 3 ∨ κ = 4 := by omega
    rcases this with rfl | rfl | rfl | rfl <;> rfl
  rw [ew]
  simp only [Option.bind_some]
  by_cases h : κ = 4
  · subst h
    rw [if_neg (by decide), if_pos rfl]
    by_cases g : s.size < 4
    · rw [if_pos (by omega), if_pos g]
    · have hv := value_f (s.extract 0 4) (by rw [ByteArray.size_extract]; omega) k hk
      have el : (s.extract 0 4).data.toList = s.data.toList.take 4 := by rw [ext_list]; simp
      rw [el] at hv
      rw [if_neg (by omega), if_neg g, if_pos (by omega), if_pos (by omega), hv]
      obtain ⟨v, hv'⟩ : ∃ v, v = beNat (s.data.toList.take 4) := ⟨_, rfl⟩
      rw [← hv']
      simp only [Option.bind_some]
      by_cases g2 : 100000 < v
      · rw [if_pos (by omega), if_pos g2]
      · rw [if_neg (by omega), if_neg g2]
        have e1 : IntKind.u64.wrap (wrap64 ((s.size : Int) - 4)) = ((s.size - 4 : Nat) : Int) := by
          rw [wrap64_id (by omega) (by omega)]
          show ((s.size : Int) - 4) % 18446744073709551616 = _
          omega
        have e2 : wrap64 (4 + wrap64 (v : Int)) = ((4 + v : Nat) : Int) := by rw [wrap64_id (n := (v : Int)) (by omega) (by omega), wrap64_id] <;> omega
        rw [e1, e2]
        by_cases g3 : s.size - 4 < v
        · rw [if_pos (by omega), if_pos g3]
        · rw [if_neg (by omega), if_neg g3, if_pos (by omega), if_pos (by omega)]
          rfl
  · have hw : 0 < widthI κ ∧ widthI κ ≤ 8 := by
      have : κ = 1 ∨ κ = 2 ∨ κ = 3 := by omega
      rcases this with rfl | rfl | rfl <;> decide
    rw [if_pos (by omega), if_neg h]
    by_cases g : s.size < widthI κ
    · rw [if_pos (by omega), if_pos g]
    · have hv := value_f (s.extract 0 (widthI κ)) (by rw [ByteArray.size_extract]; omega) k hk
      have el : (s.extract 0 (widthI κ)).data.toList = s.data.toList.take (widthI κ) := by rw [ext_list]; simp
      rw [el] at hv
      rw [if_neg (by omega), if_neg g, if_pos (by omega), if_pos (by omega), show (((widthI κ : Nat) : Int)).toNat = widthI κ from rfl, hv, if_neg h]
      rfl
theorem arm_is (k : Nat) (hk : 9 ≤ k) (κ : Int) (s : ByteArray) (out : List S60) (h1 : 1 ≤ κ) (h4 : κ ≤ 4) (hs : s.size ≤ 140737488351232) (ho : out.length ≤ 1000) (F : ByteArray → List S60 → Option (List S60 × Int)) :
    ((carillonref01_take.f k κ s).bind fun bt => (if bt.2.2.2.2 = 0 then (if out.length < 4398046511104 then (if 0 ≤ bt.2.2.2.1 then (if bt.2.2.2.1 ≤ (s.size : Int) then F (s.extract (bt.2.2.2.1 : Int).toNat s.size) (out ++ [(⟨bt.1, bt.2.1, bt.2.2.1⟩ : S60)]) else none) else none) else none) else some (([] : List S60), bt.2.2.2.2))) =
    match takeS κ s with
      | .error e => some ([], e)
      | .ok (x, s') => F s' (out ++ [x]) := by
  rw [rtake_is k hk κ s h1 h4 hs]
  simp only [Option.bind_some]
  cases h : takeS κ s with
  | error e =>
    simp only
    have : e ≠ 0 := by
      unfold takeS at h
      split at h
      · split at h
        · cases h; decide
        · split at h
          · cases h; decide
          · split at h
            · cases h; decide
            · cases h
      · split at h
        · cases h; decide
        · cases h
    rw [if_neg this]
  | ok p =>
    obtain ⟨x, s'⟩ := p
    have hr := take_rest h
    simp only [if_true]
    rw [if_pos (by omega), if_pos (by omega), if_pos (by omega), show (((takeN κ s : Nat) : Int)).toNat = takeN κ s from rfl, ← hr.1]
def curR (a b : List Int) (x : Nat) : List Int := if x < a.length then a.drop x else if (x - a.length) % b.length = 0 then [] else b.drop ((x - a.length) % b.length)
theorem rd_nat (l : List Int) (i : Nat) (h : i < l.length) : rd l (i : Int) = l[i] := by
  unfold rd
  rw [show ((i : Int)).toNat = i from rfl, List.getD_eq_getElem?_getD, List.getElem?_eq_getElem h]
  rfl
theorem curR_head (a b : List Int) (x : Nat) (h : x < a.length) : curR a b x = a[x] :: curR a b (x + 1) := by
  unfold curR
  rw [if_pos h, List.drop_eq_getElem_cons h]
  congr 1
  by_cases g : x + 1 < a.length
  · rw [if_pos g]
  · rw [if_neg g, show x + 1 - a.length = 0 by omega, if_pos (by simp), List.drop_of_length_le (by omega)]
theorem mod_next (m n : Nat) (h : 0 < n) : (m + 1) % n = if m % n + 1 = n then 0 else m % n + 1 := by
  have h1 := Nat.mod_lt m h
  rw [Nat.add_mod]
  by_cases g : m % n + 1 = n
  · rw [if_pos g]
    by_cases e : n = 1
    · subst e; simp [Nat.mod_one]
    · rw [Nat.mod_eq_of_lt (show 1 < n by omega), g, Nat.mod_self]
  · rw [if_neg g, Nat.mod_eq_of_lt (show 1 < n by omega), Nat.mod_eq_of_lt (by omega)]
theorem curR_tail (a b : List Int) (x : Nat) (h : a.length ≤ x) (hb : 0 < b.length) : b.drop ((x - a.length) % b.length) = b[(x - a.length) % b.length]'(Nat.mod_lt _ hb) :: curR a b (x + 1) := by
  have h1 := Nat.mod_lt (x - a.length) hb
  rw [List.drop_eq_getElem_cons h1]
  congr 1
  unfold curR
  rw [if_neg (by omega), show x + 1 - a.length = (x - a.length) + 1 by omega, mod_next _ _ hb]
  by_cases g : (x - a.length) % b.length + 1 = b.length
  · rw [if_pos g, if_pos rfl, List.drop_of_length_le (by omega)]
  · rw [if_neg g, if_neg (by omega)]
/-- One round of the document's reading, told in one piece. -/
theorem rl0_old (k : Nat) (x1 : ByteArray) (x6 x7 : List Int) (x9 : List S60) (x10 : Int) : carillonref01_Decode.l0 (k + 4) x1 x6 x7 x9 x10 = if x10 < (x6.length : Int) then (if x10 ≥ (x6.length : Int) then (if (x7.length : Int) = 0 then (none) else (if (Int.tmod (wrap64 (x10 - (x6.length : Int))) (x7.length : Int)) = 0 then (if x1.toList = ([] : List UInt8) then (some (x9, 0)) else (if 0 ≤ x10 then (if (x9.length : Int) = 1000 then (some (([] : List (S60)), 3)) else ((carillonref01_take.f k (rd x6 x10) x1).bind fun bt190 => (if bt190.2.2.2.2 = 0 then (if x9.length < 4398046511104 then (if 0 ≤ bt190.2.2.2.1 then (if bt190.2.2.2.1 ≤ (x1.size : Int) then (carillonref01_Decode.l0 k (x1.extract (bt190.2.2.2.1 : Int).toNat x1.size) x6 x7 (x9 ++ [(⟨bt190.1, bt190.2.1, bt190.2.2.1⟩ : S60)]) (wrap64 (x10 + 1))) else (none)) else (none)) else (none)) else (some (([] : List (S60)), bt190.2.2.2.2))))) else (none))) else (if 0 ≤ x10 then (if (x9.length : Int) = 1000 then (some (([] : List (S60)), 3)) else ((carillonref01_take.f k (rd x6 x10) x1).bind fun bt200 => (if bt200.2.2.2.2 = 0 then (if x9.length < 4398046511104 then (if 0 ≤ bt200.2.2.2.1 then (if bt200.2.2.2.1 ≤ (x1.size : Int) then (carillonref01_Decode.l0 k (x1.extract (bt200.2.2.2.1 : Int).toNat x1.size) x6 x7 (x9 ++ [(⟨bt200.1, bt200.2.1, bt200.2.2.1⟩ : S60)]) (wrap64 (x10 + 1))) else (none)) else (none)) else (none)) else (some (([] : List (S60)), bt200.2.2.2.2))))) else (none)))) else (if 0 ≤ x10 then (if (x9.length : Int) = 1000 then (some (([] : List (S60)), 3)) else ((carillonref01_take.f k (rd x6 x10) x1).bind fun bt210 => (if bt210.2.2.2.2 = 0 then (if x9.length < 4398046511104 then (if 0 ≤ bt210.2.2.2.1 then (if bt210.2.2.2.1 ≤ (x1.size : Int) then (carillonref01_Decode.l0 k (x1.extract (bt210.2.2.2.1 : Int).toNat x1.size) x6 x7 (x9 ++ [(⟨bt210.1, bt210.2.1, bt210.2.2.1⟩ : S60)]) (wrap64 (x10 + 1))) else (none)) else (none)) else (none)) else (some (([] : List (S60)), bt210.2.2.2.2))))) else (none))) else (if (x7.length : Int) > 0 then (if x10 ≥ (x6.length : Int) then (if (x7.length : Int) = 0 then (none) else (if (Int.tmod (wrap64 (x10 - (x6.length : Int))) (x7.length : Int)) = 0 then (if x1.toList = ([] : List UInt8) then (some (x9, 0)) else (if 0 ≤ (Int.tmod (wrap64 (x10 - (x6.length : Int))) (x7.length : Int)) then (if (Int.tmod (wrap64 (x10 - (x6.length : Int))) (x7.length : Int)) < (x7.length : Int) then (if (x9.length : Int) = 1000 then (some (([] : List (S60)), 3)) else ((carillonref01_take.f k (rd x7 (Int.tmod (wrap64 (x10 - (x6.length : Int))) (x7.length : Int))) x1).bind fun bt220 => (if bt220.2.2.2.2 = 0 then (if x9.length < 4398046511104 then (if 0 ≤ bt220.2.2.2.1 then (if bt220.2.2.2.1 ≤ (x1.size : Int) then (carillonref01_Decode.l0 k (x1.extract (bt220.2.2.2.1 : Int).toNat x1.size) x6 x7 (x9 ++ [(⟨bt220.1, bt220.2.1, bt220.2.2.1⟩ : S60)]) (wrap64 (x10 + 1))) else (none)) else (none)) else (none)) else (some (([] : List (S60)), bt220.2.2.2.2))))) else (none)) else (none))) else (if 0 ≤ (Int.tmod (wrap64 (x10 - (x6.length : Int))) (x7.length : Int)) then (if (Int.tmod (wrap64 (x10 - (x6.length : Int))) (x7.length : Int)) < (x7.length : Int) then (if (x9.length : Int) = 1000 then (some (([] : List (S60)), 3)) else ((carillonref01_take.f k (rd x7 (Int.tmod (wrap64 (x10 - (x6.length : Int))) (x7.length : Int))) x1).bind fun bt230 => (if bt230.2.2.2.2 = 0 then (if x9.length < 4398046511104 then (if 0 ≤ bt230.2.2.2.1 then (if bt230.2.2.2.1 ≤ (x1.size : Int) then (carillonref01_Decode.l0 k (x1.extract (bt230.2.2.2.1 : Int).toNat x1.size) x6 x7 (x9 ++ [(⟨bt230.1, bt230.2.1, bt230.2.2.1⟩ : S60)]) (wrap64 (x10 + 1))) else (none)) else (none)) else (none)) else (some (([] : List (S60)), bt230.2.2.2.2))))) else (none)) else (none)))) else (if (x7.length : Int) = 0 then (none) else (if 0 ≤ (Int.tmod (wrap64 (x10 - (x6.length : Int))) (x7.length : Int)) then (if (Int.tmod (wrap64 (x10 - (x6.length : Int))) (x7.length : Int)) < (x7.length : Int) then (if (x9.length : Int) = 1000 then (some (([] : List (S60)), 3)) else ((carillonref01_take.f k (rd x7 (Int.tmod (wrap64 (x10 - (x6.length : Int))) (x7.length : Int))) x1).bind fun bt240 => (if bt240.2.2.2.2 = 0 then (if x9.length < 4398046511104 then (if 0 ≤ bt240.2.2.2.1 then (if bt240.2.2.2.1 ≤ (x1.size : Int) then (carillonref01_Decode.l0 k (x1.extract (bt240.2.2.2.1 : Int).toNat x1.size) x6 x7 (x9 ++ [(⟨bt240.1, bt240.2.1, bt240.2.2.1⟩ : S60)]) (wrap64 (x10 + 1))) else (none)) else (none)) else (none)) else (some (([] : List (S60)), bt240.2.2.2.2))))) else (none)) else (none)))) else (if x1.toList = ([] : List UInt8) then (some (x9, 0)) else (some (([] : List (S60)), 10)))) := by
  simp only [carillonref01_Decode.l0, carillonref01_Decode.j1, carillonref01_Decode.j2, carillonref01_Decode.j3]
  by_cases h1 : x10 < (x6.length : Int)
  · have h1' : ¬ x10 ≥ (x6.length : Int) := by omega
    simp [h1, h1']
  · have h1' : x10 ≥ (x6.length : Int) := by omega
    by_cases h2 : (x7.length : Int) > 0
    · have h2' : ¬ (x7.length : Int) = 0 := by omega
      by_cases h3 : (Int.tmod (wrap64 (x10 - (x6.length : Int))) (x7.length : Int)) = 0
      · by_cases h4 : x1.toList = ([] : List UInt8)
        · simp only [if_neg h1, if_pos h1', if_pos h2, if_neg h2', if_pos h3, if_pos h4, decide_eq_true h2, if_true, h4]
          rfl
        · have h4' : (x1.toList == ([] : List UInt8)) = false := by simpa using h4
          simp only [if_neg h1, if_pos h1', if_pos h2, if_neg h2', if_pos h3, if_neg h4, decide_eq_true h2, if_true, h4', Bool.false_eq_true, if_false]
      · simp only [if_neg h1, if_pos h1', if_pos h2, if_neg h2', if_neg h3, decide_eq_true h2, if_true, Bool.false_eq_true, if_false]
    · simp only [if_neg h1, if_neg h2, decide_eq_false h2, Bool.false_eq_true, if_false]
theorem rdec_is (a b : List Int) (ha : a.length ≤ 1048576) (hb : b.length ≤ 1048576) (ka : ∀ x ∈ a, 1 ≤ x ∧ x ≤ 4) (kb : ∀ x ∈ b, 1 ≤ x ∧ x ≤ 4) (n : Nat) : ∀ (out : List S60) (s : ByteArray) (k : Nat), out.length + n = 1000 → (b = [] → out.length ≤ a.length) → s.size ≤ 140737488351232 → 4 * n + 12 ≤ k →
    carillonref01_Decode.l0 k s a b out (out.length : Int) = some (decS b n (curR a b out.length) out s) := by
  induction n with
  | zero =>
    intro out s k ho hx hs hk
    obtain ⟨k, rfl⟩ : ∃ m, k = m + 4 := ⟨k - 4, by omega⟩
    by_cases h : out.length < a.length
    · rw [rl0_old]
      rw [if_pos (by omega), if_neg (by omega), if_pos (by omega), if_pos (by omega), curR_head a b _ h]
      rfl
    · by_cases hb0 : b = []
      · have hx' := hx hb0
        subst hb0
        have e : out.length = a.length := by omega
        rw [rl0_old]
        rw [if_neg (by omega), if_neg (by simp)]
        have : curR a [] out.length = [] := by unfold curR; rw [if_neg (by omega), show out.length - a.length = 0 by omega]; simp
        rw [this]
        simp only [decS, nextK]
        split <;> rfl
      · have hbl : 0 < b.length := List.length_pos_iff.2 hb0
        have ht := curR_tail a b out.length (by omega) hbl
        have hm : Int.tmod (wrap64 ((out.length : Int) - (a.length : Int))) (b.length : Int) = (((out.length - a.length) % b.length : Nat) : Int) := by
          rw [wrap64_id (by omega) (by omega), show (out.length : Int) - (a.length : Int) = ((out.length - a.length : Nat) : Int) by omega]
          rfl
        have hml := Nat.mod_lt (out.length - a.length) hbl
        rw [rl0_old]
        rw [if_neg (by omega), if_pos (by omega), if_pos (by omega), if_neg (by omega), hm]
        by_cases g : (out.length - a.length) % b.length = 0
        · rw [if_pos (by omega)]
          have : curR a b out.length = [] := by unfold curR; rw [if_neg (by omega), if_pos g]
          rw [this]
          obtain ⟨b0, bs, rfl⟩ : ∃ b0 bs, b = b0 :: bs := by cases b with | nil => exact absurd rfl hb0 | cons x xs => exact ⟨x, xs, rfl⟩
          simp only [decS, nextK]
          by_cases gs : s.toList = ([] : List UInt8)
          · rw [if_pos gs, if_pos gs]
          · rw [if_neg gs, if_neg gs, if_pos (by omega), if_pos (by omega), if_pos (by omega)]
        · rw [if_neg (by omega), if_pos (by omega), if_pos (by omega), if_pos (by omega)]
          have : curR a b out.length = b.drop ((out.length - a.length) % b.length) := by unfold curR; rw [if_neg (by omega), if_neg g]
          rw [this, ht]
          rfl
  | succ n ih =>
    intro out s k ho hx hs hk
    obtain ⟨k, rfl⟩ : ∃ m, k = m + 4 := ⟨k - 4, by omega⟩
    have ew : wrap64 ((out.length : Int) + 1) = ((out.length + 1 : Nat) : Int) := by rw [wrap64_id] <;> omega
    by_cases h : out.length < a.length
    · have hk1 := ka _ (List.getElem_mem h)
      rw [rl0_old]
      rw [if_pos (by omega), if_neg (by omega), if_pos (by omega), if_neg (by omega), rd_nat a _ h, ew, arm_is k (by omega) _ s out hk1.1 hk1.2 hs (by omega) (fun s' o' => carillonref01_Decode.l0 k s' a b o' ((out.length + 1 : Nat) : Int)), curR_head a b _ h]
      simp only [decS, nextK]
      cases hts : takeS a[out.length] s with
      | error e => rfl
      | ok p =>
        obtain ⟨x, s'⟩ := p
        have h1 := take_size hts
        have h2 := ih (out ++ [x]) s' k (by simp; omega) (by intro hb; simp; omega) (by omega) (by omega)
        rw [List.length_append, List.length_singleton] at h2
        exact h2
    · by_cases hb0 : b = []
      · have hx' := hx hb0
        subst hb0
        have e : out.length = a.length := by omega
        rw [rl0_old]
        rw [if_neg (by omega), if_neg (by simp)]
        have : curR a [] out.length = [] := by unfold curR; rw [if_neg (by omega), show out.length - a.length = 0 by omega]; simp
        rw [this]
        simp only [decS, nextK]
        split <;> rfl
      · have hbl : 0 < b.length := List.length_pos_iff.2 hb0
        have ht := curR_tail a b out.length (by omega) hbl
        have hm : Int.tmod (wrap64 ((out.length : Int) - (a.length : Int))) (b.length : Int) = (((out.length - a.length) % b.length : Nat) : Int) := by
          rw [wrap64_id (by omega) (by omega), show (out.length : Int) - (a.length : Int) = ((out.length - a.length : Nat) : Int) by omega]
          rfl
        have hml := Nat.mod_lt (out.length - a.length) hbl
        have hk1 := kb _ (List.getElem_mem hml)
        rw [rl0_old]
        rw [if_neg (by omega), if_pos (by omega), if_pos (by omega), if_neg (by omega), hm]
        by_cases g : (out.length - a.length) % b.length = 0
        · rw [if_pos (by omega)]
          have e0 : curR a b out.length = [] := by unfold curR; rw [if_neg (by omega), if_pos g]
          rw [e0]
          have hn : nextK b [] s out = (if s.toList = ([] : List UInt8) then .inl (out, 0) else .inr (b[(out.length - a.length) % b.length]'hml, curR a b (out.length + 1))) := by
            have : b = b[(out.length - a.length) % b.length]'hml :: curR a b (out.length + 1) := by rw [← ht, g, List.drop_zero]
            obtain ⟨b0, bs, hbb⟩ : ∃ b0 bs, b = b0 :: bs := by cases b with | nil => exact absurd rfl hb0 | cons x xs => exact ⟨x, xs, rfl⟩
            have e1 := hbb.symm.trans this
            injection e1 with e2 e3
            rw [← e2, ← e3]
            conv => lhs; rw [hbb]
            rfl
          simp only [decS]
          rw [hn]
          by_cases gs : s.toList = ([] : List UInt8)
          · rw [if_pos gs, if_pos gs]
          · rw [if_neg gs, if_neg gs, if_pos (by omega), if_pos (by omega), if_neg (by omega), rd_nat b _ hml, ew, arm_is k (by omega) _ s out hk1.1 hk1.2 hs (by omega) (fun s' o' => carillonref01_Decode.l0 k s' a b o' ((out.length + 1 : Nat) : Int))]
            simp only
            cases hts : takeS (b[(out.length - a.length) % b.length]'hml) s with
            | error e => rfl
            | ok p =>
              obtain ⟨x, s'⟩ := p
              have h1 := take_size hts
              have h2 := ih (out ++ [x]) s' k (by simp; omega) (fun hb => absurd hb hb0) (by omega) (by omega)
              rw [List.length_append, List.length_singleton] at h2
              exact h2
        · have e0 : curR a b out.length = b.drop ((out.length - a.length) % b.length) := by unfold curR; rw [if_neg (by omega), if_neg g]
          rw [if_neg (by omega), if_pos (by omega), if_pos (by omega), if_neg (by omega), rd_nat b _ hml, ew, arm_is k (by omega) _ s out hk1.1 hk1.2 hs (by omega) (fun s' o' => carillonref01_Decode.l0 k s' a b o' ((out.length + 1 : Nat) : Int)), e0, ht]
          simp only [decS, nextK]
          cases hts : takeS (b[(out.length - a.length) % b.length]'hml) s with
          | error e => rfl
          | ok p =>
            obtain ⟨x, s'⟩ := p
            have h1 := take_size hts
            have h2 := ih (out ++ [x]) s' k (by simp; omega) (fun hb => absurd hb hb0) (by omega) (by omega)
            rw [List.length_append, List.length_singleton] at h2
            exact h2
theorem parse_kinds {L : List UInt8} {a b : List Int} (h : parseS L = some (a, b)) : (∀ x ∈ a, 1 ≤ x ∧ x ≤ 4) ∧ (∀ x ∈ b, 1 ≤ x ∧ x ≤ 4) ∧ a.length ≤ L.length ∧ b.length ≤ L.length := by
  have key : ∀ l : List UInt8, l.all letB = true → ∀ x ∈ l.map kindI, 1 ≤ x ∧ x ≤ 4 := by
    intro l hl x hx
    obtain ⟨c, hc, rfl⟩ := List.mem_map.1 hx
    have := kindI_range c
    exact ⟨(letB_iff c).1 (List.all_eq_true.1 hl c hc), by omega⟩
  by_cases h4 : (42 : UInt8) ∈ L
  · obtain ⟨hd, tl, h1, h2⟩ := cut_at _ _ h4
    rw [h1, parse_star hd tl h2] at h
    split at h
    · rename_i g
      cases h
      rw [Bool.and_eq_true, List.all_append, Bool.and_eq_true] at g
      refine ⟨key hd g.1.1, key tl g.1.2, ?_, ?_⟩ <;> rw [h1] <;> simp <;> omega
    · cases h
  · rw [parse_plain _ h4] at h
    split at h
    · rename_i g
      cases h
      exact ⟨key L g, by simp, by simp, by simp⟩
    · cases h
/-- The document's Decode, at every shape (of a bounded length) and text. -/
theorem rdecode_is (a0 s : ByteArray) (hz : a0.size ≤ 1048576) (hs : s.size ≤ 140737488351232) (k : Nat) (hk : 1048577 ≤ k) : carillonref01_Decode.f k a0 s = some (decodeS a0.data.toList s) := by
  unfold carillonref01_Decode.f decodeS
  have hki := kinds_is a0 hz k hk
  cases hp : parseS a0.data.toList with
  | none =>
    rw [hp] at hki
    obtain ⟨a, b, he⟩ := hki
    rw [he]
    rfl
  | some p =>
    obtain ⟨a, b⟩ := p
    rw [hp] at hki
    simp only at hki ⊢
    rw [hki]
    obtain ⟨ka, kb, la, lb⟩ := parse_kinds hp
    rw [data_len] at la lb
    have := rdec_is a b (by omega) (by omega) ka kb 1000 [] s k (by simp) (by simp) hs (by omega)
    have e0 : curR a b 0 = a := by
      unfold curR
      by_cases g : 0 < a.length
      · rw [if_pos g, List.drop_zero]
      · rw [if_neg g, show 0 - a.length = 0 by omega, if_pos (by simp)]
        exact (List.length_eq_zero_iff.1 (by omega)).symm
    simp only [Option.bind_some, if_true]
    rw [List.length_nil, e0] at this
    exact this
theorem ref_bits (x1 : ByteArray) (i : Nat) (hi : i < x1.size) (n : Nat) : ∀ (j u k : Nat), j + n = 8 → u < 4294967296 →
    carillonref02_More.l1 (k + n + 1) x1 (u : Int) (i : Int) (j : Int) = carillonref02_More.l0 k x1 ((bitsN n u ((x1.data.toList.getD i 0).toNat / 2 ^ j) : Nat) : Int) (wrap64 ((i : Int) + 1)) := by
  induction n with
  | zero =>
    intro j u k hj hu
    obtain rfl : j = 8 := by omega
    rw [carillonref02_More.l1, if_neg (by decide)]
    rfl
  | succ n ih =>
    intro j u k hj hu
    have hjj : (j : Int) < 8 := by omega
    rw [show k + (n + 1) + 1 = (k + n + 1) + 1 by omega]
    rw [carillonref02_More.l1, if_pos hjj, if_pos (by omega), if_pos (by omega), if_pos (by omega), bt_nat, shr8 _ _ (by omega)]
    have hw : wrap64 ((j : Int) + 1) = ((j + 1 : Nat) : Int) := by unfold wrap64; omega
    have hd : Int.tdiv (u : Int) 2 = ((u / 2 : Nat) : Int) := by rw [Int.tdiv_eq_ediv_of_nonneg (by omega)]; rfl
    have hm : Int.tmod (u : Int) 2 = ((u % 2 : Nat) : Int) := by rw [Int.tmod_eq_emod_of_nonneg (by omega)]; rfl
    have hdm : ((u / 2 : Nat) : Int) % 4294967296 = ((u / 2 : Nat) : Int) := by omega
    generalize hc : (x1.data.toList.getD i 0).toNat = c
    have hc8 : c < 256 := by rw [← hc]; exact UInt8.toNat_lt _
    have hcj : c / 2 ^ j < 256 := Nat.lt_of_le_of_lt (Nat.div_le_self _ _) hc8
    have ih' := ih (j + 1) (bitst u (c / 2 ^ j % 2)) k (by omega) (by
      unfold bitst
      split
      · exact Nat.xor_lt_two_pow (n := 32) (by omega) (by decide)
      · omega)
    rw [hc] at ih'
    rw [hw, hd, hm, hdm]
    have hbit : (((c / 2 ^ j : Nat) : Int) % 4294967296 % 2 = ((u % 2 : Nat) : Int)) ↔ c / 2 ^ j % 2 = u % 2 := by omega
    simp only [bitsN]
    rw [Nat.div_div_eq_div_mul, ← Nat.pow_succ]
    by_cases hb : c / 2 ^ j % 2 = u % 2
    · rw [if_pos (hbit.2 hb), ← ih']
      unfold bitst
      rw [if_neg (by simpa using hb)]
    · rw [if_neg (fun h => hb (hbit.1 h)), ← ih']
      unfold bitst
      rw [if_pos hb]
      rw [show Go.bits .xor .u32 ((u / 2 : Nat) : Int) 2197175160 = ((u / 2 ^^^ 2197175160 : Nat) : Int) from u32_xor_nat (u / 2) 2197175160 (by omega) (by decide)]
theorem ref_bytes (x1 : ByteArray) (hs : x1.size ≤ 9223372036854775807) (n : Nat) : ∀ (i u k : Nat), i + n = x1.size → u < 4294967296 →
    carillonref02_More.l0 (k + 10 * n + 1) x1 (u : Int) (i : Int) = some ((4294967295 ^^^ crcFoldN u (x1.data.toList.drop i) : Nat) : Int) := by
  have hl : x1.data.toList.length = x1.size := by rw [Array.length_toList]; rfl
  induction n with
  | zero =>
    intro i u k hi hu
    rw [carillonref02_More.l0, if_neg (by omega), List.drop_of_length_le (by omega)]
    rw [show Go.bits .xor .u32 (u : Int) 4294967295 = ((u ^^^ 4294967295 : Nat) : Int) from u32_xor_nat u 4294967295 hu (by decide), Nat.xor_comm]
    rfl
  | succ n ih =>
    intro i u k hi hu
    rw [show k + 10 * (n + 1) + 1 = ((k + 10 * n + 1) + 8 + 1) + 1 by omega]
    rw [carillonref02_More.l0, if_pos (by omega)]
    have h := ref_bits x1 i (by omega) 8 0 u (k + 10 * n + 1) (by omega) hu
    rw [show ((0 : Nat) : Int) = 0 from rfl] at h
    rw [h, Nat.pow_zero, Nat.div_one]
    have hw : wrap64 ((i : Int) + 1) = ((i + 1 : Nat) : Int) := by unfold wrap64; omega
    have hc8 : (x1.data.toList.getD i 0).toNat < 256 := UInt8.toNat_lt _
    rw [hw, bitsN_byte _ _ hc8, ← crcByteN_is, ih (i + 1) _ k (by omega) (crcByteN_lt hu hc8)]
    rw [List.drop_eq_getElem_cons (i := i) (by omega)]
    have e : x1.data.toList[i]'(by omega) = x1.data.toList.getD i 0 := by rw [List.getD_eq_getElem?_getD, List.getElem?_eq_getElem (by omega)]; rfl
    rw [e]
    rfl
/-- The document's sum is the program's. -/
theorem ref_more (a0 : Int) (a1 : ByteArray) (h0 : 0 ≤ a0) (h1 : a0 < 4294967296) (hs : a1.size ≤ 9223372036854775807) : ∀ k, 10 * a1.size + 1 ≤ k → carillonref02_More.f k a0 a1 = crc_More.f a0 a1 := by
  intro k hk
  obtain ⟨m, rfl⟩ : ∃ m, k = m + 10 * a1.size + 1 := ⟨k - 10 * a1.size - 1, by omega⟩
  obtain ⟨n0, rfl⟩ : ∃ n0 : Nat, a0 = (n0 : Int) := ⟨a0.toNat, by omega⟩
  unfold carillonref02_More.f crc_More.f
  rw [if_pos ⟨h0, h1, hs⟩]
  rw [show Go.bits .xor .u32 (n0 : Int) 4294967295 = ((n0 ^^^ 4294967295 : Nat) : Int) from u32_xor_nat n0 4294967295 (by omega) (by decide)]
  have h := ref_bytes a1 hs a1.size 0 (n0 ^^^ 4294967295) m (by omega) (Nat.xor_lt_two_pow (n := 32) (by omega) (by decide))
  rw [show ((0 : Nat) : Int) = 0 from rfl] at h
  rw [h, List.drop_zero, Nat.xor_comm n0]
  rfl
theorem crnum_is (s : ByteArray) (h : 4 ≤ s.size) : carillonref02_value.f s = some ((num4 (ls s) : Nat) : Int) := cnum_is s h
theorem rsum_zero (s : ByteArray) (h : s.size ≤ 9223372036854775807) (k : Nat) (hk : 10 * s.size + 1 ≤ k) : carillonref02_Sum.f k s = some ((sum0 (ls s) : Nat) : Int) := by
  unfold carillonref02_Sum.f
  rw [ref_more 0 s (by omega) (by omega) h k hk]
  exact sum_zero s h
theorem rframe_is (b : ByteArray) (k : Nat) (hk : 4000100 ≤ k) : carillonref02_Frame.f k b = some (if (b.size : Int) > 400000 then ((⟨#[]⟩ : ByteArray), false) else (frame b, true)) := by
  unfold carillonref02_Frame.f
  by_cases h : (b.size : Int) > 400000
  · rw [if_pos h, if_pos h]
  · rw [if_neg h, if_neg h]
    have e0 : ((b.size : Int)) % 4294967296 = ((b.size : Nat) : Int) := by omega
    rw [e0]
    have hw : carillonref02_word.f ((b.size : Nat) : Int) = some (word b.size) := rfl
    have hz : (word b.size ++ b).size = 4 + b.size := by rw [ByteArray.size_append, word_size]
    have hs : carillonref02_Sum.f k (word b.size ++ b) = some ((sumOf (word4 b.size) (ls b) : Nat) : Int) := by
      rw [rsum_zero _ (by omega) k (by omega), ls_append, word_bytes, sum0_append]
    have hw2 : carillonref02_word.f ((sumOf (word4 b.size) (ls b) : Nat) : Int) = some (word (sumOf (word4 b.size) (ls b))) := by
      generalize sumOf (word4 b.size) (ls b) = q
      rfl
    rw [hw, Option.bind_some, if_pos (by rw [word_size]; omega), hs, Option.bind_some, hw2, Option.bind_some]
    rw [if_pos (by rw [word_size, word_size]; omega), if_pos (by rw [ByteArray.size_append, word_size, word_size]; omega)]
    unfold frame
    exact Eq.refl _
theorem crtake_is (s : ByteArray) (hs : s.size ≤ 9223372036854775807) (k : Nat) (hk : 4000100 ≤ k) : carillonref02_Take.f k s = some (takeV s) := by
  unfold carillonref02_Take.f takeV
  by_cases h4 : s.size < 4
  · rw [if_pos (by omega), if_pos h4]
  · have z4 : (s.extract 0 4).size = 4 := by rw [← ls_len, ls_extract, List.length_take, List.length_drop, ls_len]; omega
    have v4 : carillonref02_value.f (s.extract 0 4) = some ((num4 (ls s) : Nat) : Int) := by
      rw [crnum_is _ (by omega), ls_extract, List.drop_zero, num4_take _ _ (by omega)]
    rw [if_neg (by omega), if_neg h4, if_pos (by omega), if_pos (by omega), v4, Option.bind_some]
    have hn := num4_lt (ls s)
    generalize hn4 : num4 (ls s) = n at *
    by_cases h5 : 400000 < n
    · rw [if_pos (by omega), if_pos h5]
    · rw [if_neg (by omega), if_neg h5]
      have w5 : wrap64 (n : Int) = (n : Int) := by unfold wrap64; omega
      have w6 : wrap64 (8 + (n : Int)) = ((8 + n : Nat) : Int) := by unfold wrap64; omega
      rw [w5, w6]
      by_cases h6 : s.size < 8 + n
      · rw [if_pos (by omega), if_pos h6]
      · rw [if_neg (by omega), if_neg h6]
        have z8 : (s.extract 4 8).size = 4 := by rw [← ls_len, ls_extract, List.length_take, List.length_drop, ls_len]; omega
        have v8 : carillonref02_value.f (s.extract 4 8) = some ((num4 ((ls s).drop 4) : Nat) : Int) := by
          rw [crnum_is _ (by omega), ls_extract, num4_take _ _ (by omega)]
        rw [if_pos (by omega), if_pos (by omega), v8, Option.bind_some, if_pos (by omega), if_pos (by omega)]
        rw [show (((8 + n : Nat) : Int)).toNat = 8 + n from rfl]
        have e8 : (s.extract 8 (8 + n)).size ≤ n := by rw [← ls_len, ls_extract, List.length_take]; omega
        have hz : ((s.extract 0 4) ++ (s.extract 8 (8 + n))).size = 4 + (s.extract 8 (8 + n)).size := by rw [ByteArray.size_append, z4]
        have hsum : carillonref02_Sum.f k ((s.extract 0 4) ++ (s.extract 8 (8 + n))) = some ((sumOf ((ls s).take 4) (((ls s).drop 8).take n) : Nat) : Int) := by
          rw [rsum_zero _ (by omega) k (by omega), ls_append, ls_extract, ls_extract, sum0_append, List.drop_zero, show 8 + n - 8 = n by omega]
        rw [if_pos (by omega), hsum, Option.bind_some]
        by_cases h7 : sumOf ((ls s).take 4) (((ls s).drop 8).take n) = num4 ((ls s).drop 4)
        · rw [if_pos (by rw [h7]), if_pos h7]
        · rw [if_neg (fun h => h7 (Int.ofNat_inj.1 h).symm), if_neg h7]
theorem rsright_is (a : Int) (p : ByteArray) (c : Int) (q v : ByteArray) : carillonref06_Right.f a p c q v = some (decide (RecP ⟨a, p, c, q, v⟩)) := by
  unfold carillonref06_Right.f
  by_cases g1 : a ≥ 0
  case neg => rw [if_neg g1, decide_eq_false (by intro h; unfold RecP at h; dsimp only at h; omega)]
  rw [if_pos g1]
  by_cases g2 : a ≤ 9007199254740991
  case neg => rw [if_neg g2, decide_eq_false (by intro h; unfold RecP at h; dsimp only at h; omega)]
  rw [if_pos g2]
  by_cases g5 : c ≥ 0
  case neg => rw [if_neg g5, decide_eq_false (by intro h; unfold RecP at h; dsimp only at h; omega)]
  rw [if_pos g5]
  by_cases g6 : c ≤ 9007199254740991
  case neg => rw [if_neg g6, decide_eq_false (by intro h; unfold RecP at h; dsimp only at h; omega)]
  rw [if_pos g6]
  by_cases g3 : (p.size : Int) ≤ 20
  case neg => rw [if_neg g3, decide_eq_false (by intro h; unfold RecP at h; dsimp only at h; omega)]
  rw [if_pos g3]
  by_cases g4 : (q.size : Int) ≤ 100
  case neg => rw [if_neg g4, decide_eq_false (by intro h; unfold RecP at h; dsimp only at h; omega)]
  rw [if_pos g4]
  congr 1
  refine decide_eq_decide.2 ?_
  unfold RecP
  dsimp only
  omega
theorem rsread_is (b : ByteArray) (hb : b.size ≤ 140737488351232) (k : Nat) (hk : 1048600 ≤ k) : ∃ q, carillonref06_read.f k b = some q ∧ q.2.2.2.2.2 = decide ((recV b).2 = 0) ∧ ((recV b).2 = 0 → q = ((recV b).1.f0, (recV b).1.f1, (recV b).1.f2, (recV b).1.f3, (recV b).1.f4, true)) := by
  unfold carillonref06_read.f
  rw [rdecode_is _ b (by decide) hb k (by omega)]
  simp only [Option.bind_some]
  obtain ⟨k, rfl⟩ : ∃ m, k = m + 1 := ⟨k - 1, by omega⟩
  have hbad : ∀ l, carillonref06_read.j0 (k + 1) l true = some (0, ⟨#[]⟩, 0, ⟨#[]⟩, ⟨#[]⟩, false) := fun l => by
    simp only [carillonref06_read.j0]
    rw [if_pos trivial]
  by_cases h : (decodeS [108, 116, 108, 116, 116] b).2 = 0
  case neg =>
    have hrv : recV b = (zR, 10) := by unfold recV; rw [if_neg (fun hc => h hc.1)]
    rw [if_neg h, hbad, hrv]
    exact ⟨_, rfl, rfl, fun h => absurd h (by decide)⟩
  obtain ⟨l, hd⟩ : ∃ l, decodeS [108, 116, 108, 116, 116] b = (l, 0) := ⟨_, Prod.ext rfl h⟩
  obtain ⟨v0, t1, v2, t3, t4, rfl, p0, p1, q0, q1, _⟩ := rec_items (by omega) hd
  have hrv : recV b = if RecP ⟨v0, t1, v2, t3, t4⟩ then (⟨v0, t1, v2, t3, t4⟩, 0) else (zR, 10) := by
    unfold recV
    rw [hd]
    dsimp only
    by_cases hr : RecP ⟨v0, t1, v2, t3, t4⟩
    · rw [if_pos hr, if_pos ⟨rfl, hr⟩]; rfl
    · rw [if_neg hr, if_neg (fun hc => hr hc.2)]
  rw [hd, hrv]
  dsimp only
  rw [if_pos rfl, if_pos (by simp), show rd_T60 [(⟨3, v0, ⟨#[]⟩⟩ : SI), ⟨4, 0, t1⟩, ⟨3, v2, ⟨#[]⟩⟩, ⟨4, 0, t3⟩, ⟨4, 0, t4⟩] 0 = ⟨3, v0, ⟨#[]⟩⟩ from rfl, show rd_T60 [(⟨3, v0, ⟨#[]⟩⟩ : SI), ⟨4, 0, t1⟩, ⟨3, v2, ⟨#[]⟩⟩, ⟨4, 0, t3⟩, ⟨4, 0, t4⟩] 2 = ⟨3, v2, ⟨#[]⟩⟩ from rfl]
  dsimp only
  by_cases c0 : v0 > 9007199254740991
  · rw [if_pos c0, hbad, if_neg (by intro h; unfold RecP at h; dsimp only at h; omega)]
    exact ⟨_, rfl, rfl, fun h => absurd h (by decide)⟩
  rw [if_neg c0, if_pos (by simp)]
  by_cases c2 : v2 > 9007199254740991
  · rw [decide_eq_true c2, hbad, if_neg (by intro h; unfold RecP at h; dsimp only at h; omega)]
    exact ⟨_, rfl, rfl, fun h => absurd h (by decide)⟩
  rw [decide_eq_false c2]
  simp only [carillonref06_read.j0]
  rw [if_neg (by decide), if_pos (by simp), if_pos (by simp), if_pos (by simp), if_pos (by simp), if_pos (by simp)]
  rw [show rd_T60 [(⟨3, v0, ⟨#[]⟩⟩ : SI), ⟨4, 0, t1⟩, ⟨3, v2, ⟨#[]⟩⟩, ⟨4, 0, t3⟩, ⟨4, 0, t4⟩] 0 = ⟨3, v0, ⟨#[]⟩⟩ from rfl, show rd_T60 [(⟨3, v0, ⟨#[]⟩⟩ : SI), ⟨4, 0, t1⟩, ⟨3, v2, ⟨#[]⟩⟩, ⟨4, 0, t3⟩, ⟨4, 0, t4⟩] 1 = ⟨4, 0, t1⟩ from rfl, show rd_T60 [(⟨3, v0, ⟨#[]⟩⟩ : SI), ⟨4, 0, t1⟩, ⟨3, v2, ⟨#[]⟩⟩, ⟨4, 0, t3⟩, ⟨4, 0, t4⟩] 2 = ⟨3, v2, ⟨#[]⟩⟩ from rfl, show rd_T60 [(⟨3, v0, ⟨#[]⟩⟩ : SI), ⟨4, 0, t1⟩, ⟨3, v2, ⟨#[]⟩⟩, ⟨4, 0, t3⟩, ⟨4, 0, t4⟩] 3 = ⟨4, 0, t3⟩ from rfl, show rd_T60 [(⟨3, v0, ⟨#[]⟩⟩ : SI), ⟨4, 0, t1⟩, ⟨3, v2, ⟨#[]⟩⟩, ⟨4, 0, t3⟩, ⟨4, 0, t4⟩] 4 = ⟨4, 0, t4⟩ from rfl]
  dsimp only
  rw [show wrap64 v0 = v0 by unfold wrap64; omega, show wrap64 v2 = v2 by unfold wrap64; omega, rsright_is]
  simp only [Option.bind_some]
  by_cases hr : RecP ⟨v0, t1, v2, t3, t4⟩
  · rw [if_pos hr, decide_eq_true hr]
    exact ⟨_, rfl, rfl, fun _ => rfl⟩
  · rw [if_neg hr, decide_eq_false hr]
    exact ⟨_, rfl, rfl, fun h => absurd h (by decide)⟩
theorem rdR (l : List SR) (i : Nat) (h : i < l.length) : rd_T23 l (i : Int) = l[i] := by
  unfold rd_T23
  rw [show ((i : Int)).toNat = i from rfl, List.getD_eq_getElem?_getD, List.getElem?_eq_getElem h]
  rfl
/-- What the document's scan asks of the last record told so far. -/
def leastOf (base : Int) (acc : List SR) : Int := if h : acc.length = 0 then base else (acc[acc.length - 1]'(by omega)).f0 + 1
theorem leastOf_snoc (base : Int) (acc : List SR) (x : SR) : leastOf base (acc ++ [x]) = x.f0 + 1 := by
  unfold leastOf
  rw [dif_neg (by simp)]
  simp
theorem rsscan_loop (s : ByteArray) (hs : s.size ≤ 140737488351232) (base : Int) : ∀ (n : Nat) (u k : Nat) (acc : List SR) (at_ : List Int), u ≤ s.size → s.size - u < n → 2 * n + 4000200 < k → 8 * acc.length + (s.size - u) < 17592186044416 → at_.length = acc.length → base ≤ leastOf base acc → (∀ x ∈ acc, x.f0 ≤ 9007199254740991) →
    carillonref06_scan.l0 k base s acc at_ (u : Int) = some (acc ++ (scanV s n (leastOf base acc) u).1.map (·.1), at_ ++ (scanV s n (leastOf base acc) u).1.map (fun p => (p.2 : Int)), (((scanV s n (leastOf base acc) u).2.1 : Nat) : Int), (scanV s n (leastOf base acc) u).2.2)
  | 0, u, k, acc, at_ => by intro _ h; omega
  | n + 1, u, k, acc, at_ => by
    intro hu hn hk ha hat hb hg
    obtain ⟨k, rfl⟩ : ∃ m, k = m + 2 := ⟨k - 2, by omega⟩
    simp only [carillonref06_scan.l0, scanV]
    by_cases h0 : u = s.size
    · rw [if_neg (by omega)]
      have hx : nextV s (leastOf base acc) u = none := by unfold nextV; rw [if_pos h0]
      rw [hx]
      simp
    rw [if_pos (by omega), if_pos (by omega), if_pos (by omega), show ((u : Int)).toNat = u from rfl, crtake_is _ (by rw [ByteArray.size_extract]; omega) _ (by omega)]
    simp only [Option.bind_some]
    by_cases h1 : (takeV (s.extract u s.size)).2.2 = 0
    case neg =>
      have hx : nextV s (leastOf base acc) u = some (.inr (takeV (s.extract u s.size)).2.2) := by unfold nextV; rw [if_neg h0, if_neg h1]
      rw [if_neg h1, hx]
      simp
    obtain ⟨g2, g3⟩ : (takeV (s.extract u s.size)).2.1 = (((takeV (s.extract u s.size)).1.size + 8 : Nat) : Int) ∧ (takeV (s.extract u s.size)).1.size + 8 ≤ (s.extract u s.size).size := by
      rcases take_tells (s.extract u s.size) with ⟨_, g2, g3⟩ | ⟨g1, _⟩
      · exact ⟨g2, g3⟩
      · exact absurd h1 g1
    rw [ByteArray.size_extract] at g3
    obtain ⟨q, hq, hq2, hq3⟩ := rsread_is (takeV (s.extract u s.size)).1 (by omega) (k + 1) (by omega)
    rw [if_pos h1, hq]
    simp only [Option.bind_some]
    rw [hq2]
    by_cases h2 : (recV (takeV (s.extract u s.size)).1).2 = 0
    case neg =>
      have hx : nextV s (leastOf base acc) u = some (.inr 10) := by
        unfold nextV
        rw [if_neg h0, if_pos h1, if_neg h2]
        rcases recV_or (takeV (s.extract u s.size)).1 with ⟨r, hr, _⟩ | hr
        · rw [hr] at h2; exact absurd rfl h2
        · rw [hr]
      rw [if_neg (by simpa using h2), hx]
      simp
    obtain ⟨r, hr⟩ : ∃ r, recV (takeV (s.extract u s.size)).1 = (r, 0) := ⟨_, Prod.ext rfl h2⟩
    have hrp : RecP r := by
      rcases recV_or (takeV (s.extract u s.size)).1 with ⟨r', hr', hp⟩ | hr'
      · rw [hr] at hr'; rw [(Prod.mk.inj hr').1]; exact hp
      · rw [hr] at hr'; have := (Prod.mk.inj hr').2; omega
    have hq4 := hq3 h2
    rw [hr] at hq4
    dsimp only at hq4
    subst hq4
    have hxx : nextV s (leastOf base acc) u = if r.f0 < leastOf base acc then some (.inr 11) else some (.inl (r, (takeV (s.extract u s.size)).1.size + 8)) := by
      unfold nextV
      rw [if_neg h0, if_pos h1, if_pos h2, hr]
    have hj : ∀ b : Bool, carillonref06_scan.j1 (k + 1) base s acc at_ (u : Int) (takeV (s.extract u s.size)).2.1 b r.f0 r.f1 r.f2 r.f3 r.f4 = if b = true then some (acc, at_, (u : Int), 11) else carillonref06_scan.l0 k base s (acc ++ [r]) (at_ ++ [(u : Int)]) ((u + ((takeV (s.extract u s.size)).1.size + 8) : Nat) : Int) := by
      intro b
      simp only [carillonref06_scan.j1]
      by_cases e : b = true
      · rw [if_pos e, if_pos e]
      · rw [if_neg e, if_neg e, if_pos (by omega), if_pos (by omega), g2, show wrap64 ((u : Int) + (((takeV (s.extract u s.size)).1.size + 8 : Nat) : Int)) = ((u + ((takeV (s.extract u s.size)).1.size + 8) : Nat) : Int) by unfold wrap64; omega]
    rw [if_pos (by simpa using h2), hxx]
    dsimp only
    rw [hj, hj, hj]
    have hrp' := hrp
    unfold RecP at hrp'
    have hgo : ¬ r.f0 < leastOf base acc → carillonref06_scan.l0 k base s (acc ++ [r]) (at_ ++ [(u : Int)]) ((u + ((takeV (s.extract u s.size)).1.size + 8) : Nat) : Int) = some (acc ++ r :: (scanV s n (r.f0 + 1) (u + ((takeV (s.extract u s.size)).1.size + 8))).1.map (·.1), at_ ++ (u : Int) :: (scanV s n (r.f0 + 1) (u + ((takeV (s.extract u s.size)).1.size + 8))).1.map (fun p => (p.2 : Int)), (((scanV s n (r.f0 + 1) (u + ((takeV (s.extract u s.size)).1.size + 8))).2.1 : Nat) : Int), (scanV s n (r.f0 + 1) (u + ((takeV (s.extract u s.size)).1.size + 8))).2.2) := by
      intro hlt
      have := rsscan_loop s hs base n (u + ((takeV (s.extract u s.size)).1.size + 8)) k (acc ++ [r]) (at_ ++ [(u : Int)]) (by omega) (by omega) (by omega) (by rw [List.length_append]; simp; omega) (by simp [hat]) (by rw [leastOf_snoc]; omega) (fun x hx => by
        rcases List.mem_append.1 hx with hx | hx
        · exact hg x hx
        · rw [List.mem_singleton.1 hx]; omega)
      rw [leastOf_snoc] at this
      rw [this]
      simp
    by_cases h3 : r.f0 < base
    · rw [if_pos h3, if_pos rfl, if_pos (by omega)]
      simp
    rw [if_neg h3]
    by_cases h4 : (acc.length : Int) > 0
    · have e1 : wrap64 ((acc.length : Int) - 1) = ((acc.length - 1 : Nat) : Int) := by unfold wrap64; omega
      have hlo : leastOf base acc = (acc[acc.length - 1]'(by omega)).f0 + 1 := by unfold leastOf; rw [dif_neg (by omega)]
      rw [if_pos h4, e1, if_pos (by omega), if_pos (by omega), rdR acc (acc.length - 1) (by omega), hlo]
      by_cases h5 : r.f0 ≤ (acc[acc.length - 1]'(by omega)).f0
      · rw [decide_eq_true h5, if_pos rfl, if_pos (by omega)]
        simp
      · rw [decide_eq_false h5, if_neg (by decide), if_neg (by omega)]
        rw [hgo (by rw [hlo]; omega)]
        simp
    · rw [if_neg h4, if_neg (by decide)]
      have hlo : leastOf base acc = base := by unfold leastOf; rw [dif_pos (by omega)]
      rw [hlo, if_neg h3]
      rw [hgo (by rw [hlo]; exact h3)]
      simp
theorem rsscan_is (s : ByteArray) (base : Int) (hs : s.size < 17592186044416) (k : Nat) (hk : 2 * s.size + 4000300 < k) : carillonref06_scan.f k base s = some ((scanV s (s.size + 1) base 0).1.map (·.1), (scanV s (s.size + 1) base 0).1.map (fun p => (p.2 : Int)), (((scanV s (s.size + 1) base 0).2.1 : Nat) : Int), (scanV s (s.size + 1) base 0).2.2) := by
  unfold carillonref06_scan.f
  have := rsscan_loop s (by omega) base (s.size + 1) 0 k [] [] (Nat.zero_le _) (by omega) (by omega) (by simp; omega) rfl (by unfold leastOf; simp) (by simp)
  simpa [leastOf] using this
theorem rsindex_loop (ev : Nat) (he : 1 ≤ ev) (l : List (SR × Nat)) (hl : l.length ≤ 2199023255552) (d : Nat) : ∀ (i k : Nat) (acc : List SE), i + d = l.length → d < k → acc.length ≤ i →
    carillonref06_Index.l0 k (ev : Int) (l.map (·.1)) (l.map fun p => (p.2 : Int)) acc (i : Int) = some (acc ++ idxV ev i (l.drop i), true) := by
  induction d with
  | zero =>
    intro i k acc hi hk ha
    obtain ⟨k, rfl⟩ : ∃ m, k = m + 1 := ⟨k - 1, by omega⟩
    simp only [carillonref06_Index.l0]
    rw [if_neg (by rw [List.length_map]; omega), List.drop_of_length_le (by omega)]
    simp [idxV]
  | succ d ih =>
    intro i k acc hi hk ha
    obtain ⟨k, rfl⟩ : ∃ m, k = m + 1 := ⟨k - 1, by omega⟩
    have hlt : i < l.length := by omega
    have ew : wrap64 ((i : Int) + 1) = ((i + 1 : Nat) : Int) := by unfold wrap64; omega
    simp only [carillonref06_Index.l0]
    rw [if_pos (by rw [List.length_map]; omega), if_neg (by omega), tmod_nat, ew, List.drop_eq_getElem_cons hlt]
    simp only [idxV]
    by_cases hm : i % ev = 0
    · have hrd : rd (l.map fun p => (p.2 : Int)) (i : Int) = (l[i].2 : Int) := by
        unfold rd
        rw [show ((i : Int)).toNat = i from rfl, List.getD_eq_getElem?_getD, List.getElem?_eq_getElem (by rw [List.length_map]; exact hlt)]
        simp
      rw [if_pos (by omega), if_pos (by omega), if_pos (by rw [List.length_map]; omega), if_pos (by omega), if_pos hm, hrd, rdR _ i (by rw [List.length_map]; exact hlt), ih (i + 1) k _ (by omega) (by omega) (by rw [List.length_append]; simp; omega), List.getElem_map]
      simp
    · rw [if_neg (by omega), if_neg hm, ih (i + 1) k _ (by omega) (by omega) (by omega)]
      simp
theorem rsindex_is (s : ByteArray) (base : Int) (hs : s.size < 17592186044416) (ev : Int) (k : Nat) (hk : 2 * s.size + 4000400 < k) : carillonref06_Index.f k base s ev = some (if ev < 1 then ([], false) else (idxV ev.toNat 0 (scanV s (s.size + 1) base 0).1, true)) := by
  obtain ⟨_, hu, hlen⟩ := scanV_rises s (s.size + 1) base 0 (Nat.zero_le _)
  unfold carillonref06_Index.f
  by_cases h : ev < 1
  · rw [if_pos h, if_pos h]
  · rw [if_neg h, if_neg h, rsscan_is s base hs k (by omega)]
    simp only [Option.bind_some]
    obtain ⟨e, rfl⟩ : ∃ e : Nat, ev = (e : Int) := ⟨ev.toNat, by omega⟩
    have := rsindex_loop e (by omega) (scanV s (s.size + 1) base 0).1 (by omega) (scanV s (s.size + 1) base 0).1.length 0 k [] (by omega) (by omega) (by simp)
    rw [List.drop_zero, List.nil_append] at this
    exact this
theorem rsfind_loop (l : List SE) (off : Int) (hl : l.length ≤ 1000000000000000) (d : Nat) : ∀ (i k : Nat) (b : Int), i + d = l.length → d < k → carillonref06_Find.l0 k l off b (i : Int) = some (findV (l.drop i) off b) := by
  induction d with
  | zero =>
    intro i k b hi hk
    obtain ⟨k, rfl⟩ : ∃ m, k = m + 1 := ⟨k - 1, by omega⟩
    simp only [carillonref06_Find.l0]
    rw [if_neg (by omega), List.drop_of_length_le (by omega)]
    rfl
  | succ d ih =>
    intro i k b hi hk
    obtain ⟨k, rfl⟩ : ∃ m, k = m + 1 := ⟨k - 1, by omega⟩
    have hlt : i < l.length := by omega
    have ew : wrap64 ((i : Int) + 1) = ((i + 1 : Nat) : Int) := by unfold wrap64; omega
    simp only [carillonref06_Find.l0]
    rw [if_pos (by omega), if_pos (by omega), rdE l i hlt, ew, List.drop_eq_getElem_cons hlt]
    by_cases h : l[i].f0 ≤ off
    · rw [if_pos h, ih (i + 1) k _ (by omega) (by omega)]
      show _ = some (findV (l.drop (i + 1)) off (if l[i].f0 ≤ off then l[i].f1 else b))
      rw [if_pos h]
    · rw [if_neg h, ih (i + 1) k _ (by omega) (by omega)]
      show _ = some (findV (l.drop (i + 1)) off (if l[i].f0 ≤ off then l[i].f1 else b))
      rw [if_neg h]
theorem rsfind_is (l : List SE) (off : Int) (hl : l.length ≤ 1000000000000000) (k : Nat) (hk : l.length < k) : carillonref06_Find.f k l off = some (findV l off 0) := by
  unfold carillonref06_Find.f
  have := rsfind_loop l off hl l.length 0 k 0 (by omega) hk
  rw [List.drop_zero] at this
  exact this
theorem rsfrom_loop (l : List SR) (hl : l.length ≤ 2199023255552) (off most : Int) (d : Nat) : ∀ (i k : Nat) (acc : List SR), i + d = l.length → d < k → acc.length ≤ i →
    carillonref06_From.l0 k off most l acc (i : Int) = some (acc ++ ((l.drop i).filter fun r => decide (off ≤ r.f0)).take (most - acc.length).toNat) := by
  induction d with
  | zero =>
    intro i k acc hi hk ha
    obtain ⟨k, rfl⟩ : ∃ m, k = m + 1 := ⟨k - 1, by omega⟩
    simp only [carillonref06_From.l0]
    rw [if_neg (by omega), List.drop_of_length_le (by omega)]
    simp
  | succ d ih =>
    intro i k acc hi hk ha
    obtain ⟨k, rfl⟩ : ∃ m, k = m + 1 := ⟨k - 1, by omega⟩
    have hlt : i < l.length := by omega
    have ew : wrap64 ((i : Int) + 1) = ((i + 1 : Nat) : Int) := by unfold wrap64; omega
    simp only [carillonref06_From.l0]
    rw [if_pos (by omega)]
    by_cases hm : (acc.length : Int) < most
    case neg =>
      rw [if_neg hm, show (most - (acc.length : Int)).toNat = 0 by omega]
      simp
    rw [if_pos hm, if_pos (by omega), rdR l i hlt, ew, List.drop_eq_getElem_cons hlt]
    by_cases ho : l[i].f0 ≥ off
    · have e : (most - (acc.length : Int)).toNat = (most - ((acc ++ [l[i]]).length : Int)).toNat + 1 := by rw [List.length_append]; simp; omega
      rw [if_pos ho, if_pos (by omega), ih (i + 1) k _ (by omega) (by omega) (by rw [List.length_append]; simp; omega), e, List.filter_cons_of_pos (by simpa using ho), List.take_succ_cons, List.append_assoc]
      rfl
    · rw [if_neg ho, ih (i + 1) k _ (by omega) (by omega) (by omega), List.filter_cons_of_neg (by simpa using ho)]
theorem rsfrom_is (s : ByteArray) (base off most : Int) (hs : s.size < 17592186044416) (k : Nat) (hk : 2 * s.size + 4000400 < k) : carillonref06_From.f k base s off most = some (pickV off most.toNat (scanV s (s.size + 1) base 0).1) := by
  obtain ⟨_, hu, hlen⟩ := scanV_rises s (s.size + 1) base 0 (Nat.zero_le _)
  unfold carillonref06_From.f
  rw [rsscan_is s base hs k (by omega)]
  simp only [Option.bind_some]
  have := rsfrom_loop ((scanV s (s.size + 1) base 0).1.map (·.1)) (by rw [List.length_map]; omega) off most (scanV s (s.size + 1) base 0).1.length 0 k [] (by rw [List.length_map]; omega) (by omega) (by simp)
  rw [List.drop_zero, List.nil_append, show ((0 : Nat) : Int) = 0 from rfl] at this
  rw [this]
  simp [pickV]
theorem srdR (l : List SR) (i : Nat) (h : i < l.length) : rd_T23 l (i : Int) = l[i] := by
  unfold rd_T23
  rw [show ((i : Int)).toNat = i from rfl, List.getD_eq_getElem?_getD, List.getElem?_eq_getElem h]
  rfl
theorem srecords_loop (l : List SR) (hl : l.length ≤ 1000000000000000) (d : Nat) : ∀ (i k : Nat), i + d = l.length → d < k → carillonlaw06_records.l0 k l l (i : Int) = some true := by
  induction d with
  | zero =>
    intro i k hi hk
    obtain ⟨k, rfl⟩ : ∃ m, k = m + 1 := ⟨k - 1, by omega⟩
    simp only [carillonlaw06_records.l0]
    rw [if_neg (by omega)]
  | succ d ih =>
    intro i k hi hk
    obtain ⟨k, rfl⟩ : ∃ m, k = m + 1 := ⟨k - 1, by omega⟩
    have ew : wrap64 ((i : Int) + 1) = ((i + 1 : Nat) : Int) := by unfold wrap64; omega
    simp only [carillonlaw06_records.l0]
    rw [if_pos (by omega), if_pos (by omega), if_pos (by omega), ew, ih (i + 1) k (by omega) (by omega), if_neg (by simp)]
theorem srecords_is (l : List SR) (hl : l.length ≤ 1000000000000000) (k : Nat) (hk : l.length < k) : carillonlaw06_records.f k l l = some true := by
  unfold carillonlaw06_records.f
  rw [if_pos rfl]
  exact srecords_loop l hl l.length 0 k (by omega) hk
end Go.Proofs.YtmjgifhgodgghaaDoor.P
