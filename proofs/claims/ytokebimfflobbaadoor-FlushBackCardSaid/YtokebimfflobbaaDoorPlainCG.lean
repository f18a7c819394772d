/- What is written is read, what is read is written: plain lists. -/
import Derived.Test.YtokebimfflobbaaDoorPx6
import Derived.Test.YtokebimfflobbaaDoorPlainCE
import Derived.Test.YtokebimfflobbaaDoorPlainCB
namespace Go.Proofs.YtokebimfflobbaaDoor.P
open Go.RowKit Go.Proofs.YtokebimfflobbaaDoorW.PrintWords Go.Proofs.YtokebimfflobbaaDoorW.PrintLast Go.Proofs.YtokebimfflobbaaDoorW.PrintMore
set_option linter.unusedSimpArgs false
set_option linter.unusedVariables false
set_option maxRecDepth 100000
/-- The bytes of some numbers. -/
def toU (l : List Int) : List UInt8 := l.map fun n => UInt8.ofNat n.toNat
theorem toU_append (a b : List Int) : toU (a ++ b) = toU a ++ toU b := by simp [toU]
theorem toU_length (a : List Int) : (toU a).length = a.length := by simp [toU]
theorem toU_bytes (s : ByteArray) : toU (bytesOf s) = s.data.toList := by
  unfold toU bytesOf
  rw [List.map_map]
  conv => rhs; rw [← List.map_id s.data.toList]
  apply List.map_congr_left
  intro c _
  simp
theorem son_data (l : List Int) : (strOfNums l).data.toList = toU l := strOfNums_data l
theorem beNat_beI (n : Nat) : ∀ v : Nat, beNat (toU (beI (v : Int) n)) = v % 256 ^ n := by
  induction n with
  | zero => intro v; simp [beI, toU, beNat, Nat.mod_one]
  | succ n ih =>
    intro v
    have e : toU (beI (v : Int) (n + 1)) = toU (beI ((v / 256 : Nat) : Int) n) ++ [UInt8.ofNat (v % 256)] := by
      rw [beI_snoc, toU_append]
      congr 1
    rw [e, beNat_snoc, ih, Nat.pow_succ, Nat.mul_comm (256 ^ n) 256, Nat.mod_mul]
    have : (UInt8.ofNat (v % 256)).toNat = v % 256 := by simp
    rw [this]
    omega
theorem ext_pre (s : ByteArray) (A B : List UInt8) (h : s.data.toList = A ++ B) : s.extract A.length s.size = ⟨B.toArray⟩ := by
  apply ba_eq
  rw [ext_list, h, List.drop_left]
  have : s.size = A.length + B.length := by rw [← data_len, h, List.length_append]
  rw [List.take_of_length_le (by omega)]
theorem ba_nil {s : ByteArray} (h : s.toList = ([] : List UInt8)) : s = ⟨#[]⟩ := ba_eq (by rw [← toList_eq, h])
/-- An item that is written is read, whatever stands behind it. -/
theorem take_enc {x : S58} (hx : WfI x) {l : List Int} (h : encOne x = .ok l) (s : ByteArray) (R : List UInt8) (hs : s.data.toList = toU l ++ R) : takeS x.f0 s = .ok (x, ⟨R.toArray⟩) := by
  obtain ⟨w0, w1, w2, w3, w4⟩ := hx
  have hz : s.size = l.length + R.length := by rw [← data_len, hs, List.length_append, toU_length]
  unfold encOne at h
  unfold takeS
  split at h
  · rename_i h4
    rw [if_pos h4]
    split at h
    · rename_i h1
      split at h
      · cases h
      · rename_i hl
        cases h
        rw [List.length_append, beI_length, bytesOf_length] at hz
        have e4 : s.data.toList.take 4 = toU (beI (x.f2.size : Int) 4) := by
          rw [hs, toU_append, List.append_assoc, List.take_left' (by rw [toU_length, beI_length])]
        have ev : beNat (s.data.toList.take 4) = x.f2.size := by
          rw [e4, beNat_beI, Nat.mod_eq_of_lt (by omega)]
        rw [ev, if_neg (by omega), if_neg (by omega), if_neg (by omega)]
        have e1 : s.extract 4 (4 + x.f2.size) = x.f2 := by
          apply ba_eq
          rw [ext_list, hs, toU_append, List.append_assoc, List.drop_left' (by rw [toU_length, beI_length]), toU_bytes, show 4 + x.f2.size - 4 = x.f2.size by omega, List.take_left' (data_len _)]
        have e2 : s.extract (4 + x.f2.size) s.size = ⟨R.toArray⟩ := by
          have := ext_pre s (toU (beI (x.f2.size : Int) 4 ++ bytesOf x.f2)) R hs
          rwa [toU_length, List.length_append, beI_length, bytesOf_length] at this
        rw [e1, e2]
        obtain ⟨f0, f1, f2⟩ := x
        simp only at h4 h1
        rw [h4, h1]
    · cases h
  · rename_i h4
    rw [if_neg h4]
    split at h
    · rename_i hr
      split at h
      · rename_i h2
        split at h
        · rename_i h8
          cases h
          rw [beI_length] at hz
          obtain ⟨v, hv⟩ : ∃ v : Nat, x.f1 = (v : Int) := ⟨x.f1.toNat, by omega⟩
          have hw : widthI x.f0 = 1 ∨ widthI x.f0 = 4 ∨ widthI x.f0 = 8 := by
            have : x.f0 = 1 ∨ x.f0 = 2 ∨ x.f0 = 3 := by omega
            rcases this with h | h | h <;> rw [h] <;> decide
          have e4 : s.data.toList.take (widthI x.f0) = toU (beI x.f1 (widthI x.f0)) := by
            rw [hs, List.take_left' (by rw [toU_length, beI_length])]
          have hlt : v < 256 ^ widthI x.f0 := by
            rw [hv] at h8 w1
            rcases hw with e | e | e <;> rw [e] at h8 ⊢
            · rcases h8 with h8 | h8
              · omega
              · have h8 : (v : Int) / 256 = 0 := h8
                omega
            · rcases h8 with h8 | h8
              · omega
              · have h8 : (v : Int) / 4294967296 = 0 := h8
                omega
            · omega
          have ev : beNat (s.data.toList.take (widthI x.f0)) = v := by
            rw [e4, hv, beNat_beI, Nat.mod_eq_of_lt hlt]
          have e2 : s.extract (widthI x.f0) s.size = ⟨R.toArray⟩ := by
            have := ext_pre s (toU (beI x.f1 (widthI x.f0))) R hs
            rwa [toU_length, beI_length] at this
          rw [ev, if_neg (by omega), e2, ← hv, ← ba_nil h2]
        · cases h
      · cases h
    · cases h
theorem beI_of (A : List UInt8) : toU (beI ((beNat A : Nat) : Int) A.length) = A := by
  have key : ∀ (n : Nat) (A : List UInt8), A.length = n → toU (beI ((beNat A : Nat) : Int) n) = A := by
    intro n
    induction n with
    | zero => intro A h; rw [List.length_eq_zero_iff.1 h]; rfl
    | succ n ih =>
      intro A h
      obtain ⟨B, c, rfl⟩ : ∃ B c, A = B ++ [c] := ⟨A.dropLast, A.getLast (by intro e; rw [e] at h; simp at h), (List.dropLast_concat_getLast _).symm⟩
      have hB : B.length = n := by simpa using h
      have hc := c.toNat_lt
      rw [beNat_snoc, beI_snoc, toU_append]
      have e1 : ((beNat B * 256 + c.toNat : Nat) : Int) / 256 = ((beNat B : Nat) : Int) := by omega
      have e2 : ((beNat B * 256 + c.toNat : Nat) : Int) % 256 = ((c.toNat : Nat) : Int) := by omega
      rw [e1, e2, ih B hB]
      congr 1
      simp [toU]
  exact key A.length A rfl
/-- An item that is read is written as it stood. -/
theorem enc_take {k : Int} (h1 : 1 ≤ k) (h4 : k ≤ 4) {s : ByteArray} (hz : s.size ≤ 1000000000000000) {x : S58} {s' : ByteArray} (h : takeS k s = .ok (x, s')) :
    ∃ l, encOne x = .ok l ∧ s.data.toList = toU l ++ s'.data.toList ∧ WfI x ∧ x.f0 = k ∧ 0 < l.length := by
  have hr := take_size h
  unfold takeS at h
  split at h
  · rename_i hk
    split at h
    · cases h
    · rename_i g1
      split at h
      · cases h
      · rename_i g2
        split at h
        · cases h
        · rename_i g3
          cases h
          obtain ⟨v, hv⟩ : ∃ v, beNat (s.data.toList.take 4) = v := ⟨_, rfl⟩
          rw [hv] at g2 g3 ⊢
          have hs2 : (s.extract 4 (4 + v)).size = v := by rw [ByteArray.size_extract]; omega
          refine ⟨beI ((v : Nat) : Int) 4 ++ bytesOf (s.extract 4 (4 + v)), ?_, ?_, ⟨?_, ?_, ?_, ?_, ?_⟩, hk.symm, by rw [List.length_append, beI_length]; omega⟩
          · unfold encOne
            rw [if_pos rfl, if_pos rfl, hs2, if_neg (by omega)]
          · rw [toU_append, toU_bytes, ← hv]
            have := beI_of (s.data.toList.take 4)
            rw [List.length_take, data_len, Nat.min_eq_left (by omega)] at this
            rw [this, hv, ext_list, ext_list, show 4 + v - 4 = v by omega, List.append_assoc]
            conv => lhs; rw [← List.take_append_drop 4 s.data.toList]
            congr 1
            conv => lhs; rw [← List.take_append_drop v (s.data.toList.drop 4)]
            congr 1
            rw [List.drop_drop, List.take_of_length_le]
            rw [List.length_drop, data_len]
            exact Nat.le_refl _
          · exact Int.le_refl _
          · show (0 : Int) < 18446744073709551616
            decide
          · show (-9223372036854775808 : Int) ≤ 4
            decide
          · show (4 : Int) ≤ 9223372036854775807
            decide
          · rw [hs2]; omega
  · rename_i hk
    split at h
    · cases h
    · rename_i g1
      cases h
      have hw : (widthI k = 1 ∨ widthI k = 4 ∨ widthI k = 8) ∧ (1 ≤ k ∧ k ≤ 3) := by
        have : k = 1 ∨ k = 2 ∨ k = 3 := by omega
        rcases this with h | h | h <;> subst h <;> decide
      have hb := beNat_lt (s.data.toList.take (widthI k))
      rw [List.length_take, data_len, Nat.min_eq_left (by omega)] at hb
      obtain ⟨v, hv⟩ : ∃ v, beNat (s.data.toList.take (widthI k)) = v := ⟨_, rfl⟩
      rw [hv] at hb ⊢
      refine ⟨beI ((v : Nat) : Int) (widthI k), ?_, ?_, ⟨?_, ?_, ?_, ?_, ?_⟩, rfl, by rw [beI_length]; omega⟩
      · unfold encOne
        rw [if_neg hk, if_pos hw.2, if_pos (by rw [toList_eq])]
        rcases hw.1 with e | e | e <;> rw [e] at hb ⊢
        · have : ((v : Nat) : Int) / 256 ^ 1 = 0 := by show ((v : Nat) : Int) / 256 = 0; omega
          rw [if_pos (.inr this)]
        · have : ((v : Nat) : Int) / 256 ^ 4 = 0 := by show ((v : Nat) : Int) / 4294967296 = 0; omega
          rw [if_pos (.inr this)]
        · rw [if_pos (.inl (by decide))]
      · rw [← hv]
        have := beI_of (s.data.toList.take (widthI k))
        rw [List.length_take, data_len, Nat.min_eq_left (by omega)] at this
        rw [this, ext_list]
        conv => lhs; rw [← List.take_append_drop (widthI k) s.data.toList]
        congr 1
        rw [List.take_of_length_le]
        rw [List.length_drop, data_len]
        exact Nat.le_refl _
      · show (0 : Int) ≤ (v : Int)
        omega
      · show ((v : Nat) : Int) < 18446744073709551616
        rcases hw.1 with e | e | e <;> rw [e] at hb <;> omega
      · show -9223372036854775808 ≤ k
        omega
      · show k ≤ 9223372036854775807
        omega
      · show (⟨#[]⟩ : ByteArray).size ≤ _
        decide
theorem encAll_append (a b : List S58) : encAll (a ++ b) = match encAll a with
    | .error e => .error e
    | .ok l => match encAll b with
      | .error e => .error e
      | .ok m => .ok (l ++ m) := by
  induction a with
  | nil => simp only [List.nil_append, encAll]; cases encAll b <;> simp
  | cons x a ih =>
    simp only [List.cons_append, encAll, ih]
    cases encOne x with
    | error e => rfl
    | ok l =>
      cases encAll a with
      | error e => rfl
      | ok m =>
        simp only
        cases encAll b <;> simp
/-- Items that are written, and whatever stands behind them, by their kinds. -/
theorem dec_enc (b : List Int) (R : List UInt8) : ∀ (l : List S58) (m : List Int) (n : Nat) (cur : List Int) (out : List S58) (s : ByteArray), (∀ x ∈ l, WfI x) → encAll l = .ok m → l.length ≤ n → s.data.toList = toU m ++ R →
    decS b n (l.map (·.f0) ++ cur) out s = decS b (n - l.length) cur (out ++ l) ⟨R.toArray⟩ := by
  intro l
  induction l with
  | nil =>
    intro m n cur out s _ h _ hs
    cases h
    have : s = ⟨R.toArray⟩ := ba_eq (by rw [hs]; rfl)
    rw [this]
    simp
  | cons x l ih =>
    intro m n cur out s hw h hn hs
    simp only [encAll] at h
    cases he : encOne x with
    | error e => rw [he] at h; cases h
    | ok a =>
      rw [he] at h
      cases ha : encAll l with
      | error e => rw [ha] at h; cases h
      | ok c =>
        rw [ha] at h
        cases h
        obtain ⟨n, rfl⟩ : ∃ q, n = q + 1 := ⟨n - 1, by simp at hn; omega⟩
        rw [toU_append, List.append_assoc] at hs
        have ht := take_enc (hw x (by simp)) he s _ hs
        simp only [List.map_cons, List.cons_append, decS, nextK, ht]
        rw [ih c n cur (out ++ [x]) _ (fun y hy => hw y (by simp [hy])) ha (by simpa using hn) rfl]
        simp [Nat.add_sub_add_right]
theorem encOne_pos {x : S58} {l : List Int} (h : encOne x = .ok l) : 0 < l.length := by
  unfold encOne at h
  split at h
  · split at h
    · split at h
      · cases h
      · cases h
        rw [List.length_append, beI_length]; omega
    · cases h
  · split at h
    · rename_i hr
      split at h
      · split at h
        · cases h
          rw [beI_length]
          have : x.f0 = 1 ∨ x.f0 = 2 ∨ x.f0 = 3 := by omega
          rcases this with h | h | h <;> rw [h] <;> decide
        · cases h
      · cases h
    · cases h
theorem encOne_kind {x : S58} {l : List Int} (h : encOne x = .ok l) : 1 ≤ x.f0 ∧ x.f0 ≤ 4 := by
  unfold encOne at h
  split at h
  · omega
  · split at h
    · omega
    · cases h
/-- What was read is written as it stood; its kinds are the shape's. -/
theorem enc_dec (b : List Int) (kb : ∀ x ∈ b, 1 ≤ x ∧ x ≤ 4) (n : Nat) : ∀ (cur : List Int) (out : List S58) (s : ByteArray) (l : List S58), (∀ x ∈ cur, 1 ≤ x ∧ x ≤ 4) → s.size ≤ 1000000000000000 → decS b n cur out s = (l, 0) →
    ∃ m e, l = out ++ m ∧ encAll m = .ok e ∧ s.data.toList = toU e ∧ (∀ x ∈ m, WfI x) ∧ m.length ≤ n ∧ ∃ j, m.map (·.f0) = cur ++ (List.replicate j b).flatten := by
  induction n with
  | zero =>
    intro cur out s l kc hs h
    cases cur with
    | nil =>
      cases b with
      | nil =>
        simp only [decS, nextK] at h
        by_cases g : s.toList = ([] : List UInt8)
        · rw [if_pos g] at h
          cases h
          exact ⟨[], [], by simp, rfl, by rw [← toList_eq, g]; rfl, by simp, by simp, 0, by simp⟩
        · rw [if_neg g] at h
          cases h
      | cons k ks =>
        simp only [decS, nextK] at h
        by_cases g : s.toList = ([] : List UInt8)
        · rw [if_pos g] at h
          cases h
          exact ⟨[], [], by simp, rfl, by rw [← toList_eq, g]; rfl, by simp, by simp, 0, by simp⟩
        · rw [if_neg g] at h
          cases h
    | cons k ks => cases h
  | succ n ih =>
    intro cur out s l kc hs h
    have arm : ∀ (k : Int) (ks : List Int) (hk : 1 ≤ k ∧ k ≤ 4) (hks : ∀ x ∈ ks, 1 ≤ x ∧ x ≤ 4), (match takeS k s with
        | Except.error e => (([] : List S58), e)
        | Except.ok (x, s') => decS b n ks (out ++ [x]) s') = (l, 0) →
        ∃ m e, l = out ++ m ∧ encAll m = .ok e ∧ s.data.toList = toU e ∧ (∀ x ∈ m, WfI x) ∧ m.length ≤ n + 1 ∧ ∃ j, m.map (·.f0) = (k :: ks) ++ (List.replicate j b).flatten := by
      intro k ks hk hks h
      cases ht : takeS k s with
      | error e =>
        rw [ht] at h
        simp only [Prod.mk.injEq] at h
        exfalso
        have h0 := h.2
        unfold takeS at ht
        split at ht
        · split at ht
          · cases ht; exact absurd h0 (by decide)
          · split at ht
            · cases ht; exact absurd h0 (by decide)
            · split at ht
              · cases ht; exact absurd h0 (by decide)
              · cases ht
        · split at ht
          · cases ht; exact absurd h0 (by decide)
          · cases ht
      | ok p =>
        obtain ⟨x, s'⟩ := p
        rw [ht] at h
        simp only at h
        have hz := take_size ht
        obtain ⟨a, ha, hsa, hw, hf, _⟩ := enc_take hk.1 hk.2 hs ht
        obtain ⟨m, e, h1, h2, h3, h4, h5, j, h6⟩ := ih ks (out ++ [x]) s' l hks (by omega) h
        refine ⟨x :: m, a ++ e, by rw [h1]; simp, ?_, by rw [toU_append, hsa, h3], ?_, by simp; omega, j, by simp [hf, h6]⟩
        · simp only [encAll, ha, h2]
        · intro y hy
          rcases List.mem_cons.1 hy with rfl | hy
          · exact hw
          · exact h4 y hy
    cases cur with
    | nil =>
      cases hb : b with
      | nil =>
        rw [hb] at h
        simp only [decS, nextK] at h
        by_cases g : s.toList = ([] : List UInt8)
        · rw [if_pos g] at h
          cases h
          exact ⟨[], [], by simp, rfl, by rw [← toList_eq, g]; rfl, by simp, by simp, 0, by simp⟩
        · rw [if_neg g] at h
          cases h
      | cons k ks =>
        have hn : nextK b [] s out = if s.toList = ([] : List UInt8) then .inl (out, 0) else .inr (k, ks) := by rw [hb]; rfl
        simp only [decS, hn] at h
        by_cases g : s.toList = ([] : List UInt8)
        · rw [if_pos g] at h
          cases h
          exact ⟨[], [], by simp, rfl, by rw [← toList_eq, g]; rfl, by simp, by simp, 0, by simp⟩
        · rw [if_neg g] at h
          obtain ⟨m, e, h1, h2, h3, h4, h5, j, h6⟩ := arm k ks (kb k (by rw [hb]; simp)) (fun x hx => kb x (by rw [hb]; simp [hx])) h
          exact ⟨m, e, h1, h2, h3, h4, h5, j + 1, by rw [h6, ← hb, List.replicate_succ]; simp⟩
    | cons k ks => exact arm k ks (kc k (by simp)) (fun x hx => kc x (by simp [hx])) h
end Go.Proofs.YtokebimfflobbaaDoor.P
