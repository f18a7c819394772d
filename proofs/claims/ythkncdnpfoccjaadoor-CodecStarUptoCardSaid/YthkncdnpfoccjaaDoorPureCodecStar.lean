/- The law CodecStar, over plain functions. -/
import Derived.Test.YthkncdnpfoccjaaDoorKinds
import Derived.OpenShut
import Derived.Test.YthkncdnpfoccjaaDoorPlainX
import Derived.Test.YthkncdnpfoccjaaDoorPx11
namespace Go.Proofs.YthkncdnpfoccjaaDoor.P
open Go.RowKit Go.Proofs.YthkncdnpfoccjaaDoorW.PrintWords
set_option linter.unusedVariables false
set_option linter.unusedSimpArgs false
set_option maxRecDepth 100000
def carillonlaw01_CodecStar.PureUpto : Prop := ∀ (x0 : ByteArray) (x1 : ByteArray) (x2 : Int) (x3 : ByteArray), x0.size ≤ 140737488351232 → x1.size ≤ 140737488351232 → (Lit.int .i64 x2).wf = true → x3.size ≤ 140737488351232 → (fun s : ByteArray => s.size + 1) x0 + (fun s : ByteArray => s.size + 1) x1 + (fun _ : Int => 1) x2 + (fun s : ByteArray => s.size + 1) x3 ≤ 1048576 → ∃ k, carillonlaw01_CodecStar.f k x0 x1 x2 x3 = some true
theorem same_loopX (l : List S32) (hl : l.length ≤ 4611686018427387904) (d : Nat) : ∀ (i k : Nat), i + d = l.length → d < k → carillonlaw01_same.l0 k l l (i : Int) = some true := by
  induction d with
  | zero =>
    intro i k hi hk
    obtain ⟨k, rfl⟩ : ∃ m, k = m + 1 := ⟨k - 1, by omega⟩
    simp only [carillonlaw01_same.l0]
    rw [if_neg (by omega)]
  | succ d ih =>
    intro i k hi hk
    obtain ⟨k, rfl⟩ : ∃ m, k = m + 1 := ⟨k - 1, by omega⟩
    have ew : wrap64 ((i : Int) + 1) = ((i + 1 : Nat) : Int) := by rw [wrap64_id] <;> omega
    simp only [carillonlaw01_same.l0]
    rw [if_pos (by omega), if_pos (by omega), if_pos (by omega), if_neg (by simp), ew]
    exact ih (i + 1) k (by omega) (by omega)
theorem same_fX (l : List S32) (hl : l.length ≤ 4611686018427387904) (k : Nat) (hk : l.length < k) : carillonlaw01_same.f k l l = some true := by
  unfold carillonlaw01_same.f
  rw [if_pos rfl]
  exact same_loopX l hl l.length 0 k (by omega) hk
theorem nextK_len {b cur : List Int} {s : ByteArray} {out : List S32} {r : List S32 × Int} (h : nextK b cur s out = .inl r) : r.1.length ≤ out.length := by
  cases cur with
  | cons k ks => simp [nextK] at h
  | nil =>
    cases b with
    | nil =>
      simp only [nextK] at h
      have := Sum.inl.inj h
      subst this
      split
      · exact Nat.le_refl _
      · exact Nat.zero_le _
    | cons k ks =>
      simp only [nextK] at h
      split at h
      · have := Sum.inl.inj h
        subst this
        exact Nat.le_refl _
      · cases h
theorem decS_len (b : List Int) (n : Nat) : ∀ (cur : List Int) (out : List S32) (s : ByteArray), (decS b n cur out s).1.length ≤ out.length + n := by
  induction n with
  | zero =>
    intro cur out s
    simp only [decS]
    cases h : nextK b cur s out with
    | inl r => have := nextK_len h; dsimp only; omega
    | inr p => exact Nat.zero_le _
  | succ n ih =>
    intro cur out s
    simp only [decS]
    cases h : nextK b cur s out with
    | inl r => have := nextK_len h; dsimp only; omega
    | inr p =>
      obtain ⟨k, ks⟩ := p
      dsimp only
      cases ht : takeS k s with
      | error e => exact Nat.zero_le _
      | ok q =>
        obtain ⟨x, s'⟩ := q
        have := ih ks (out ++ [x]) s'
        rw [List.length_append, List.length_singleton] at this
        dsimp only
        omega
theorem decodeS_len (L : List UInt8) (s : ByteArray) : (decodeS L s).1.length ≤ 1000 := by
  unfold decodeS
  cases parseS L with
  | none => exact Nat.zero_le _
  | some p =>
    have := decS_len p.2 1000 p.1 [] s
    simpa using this
theorem contains_is (a g : ByteArray) : strings_Contains.f (a ++ g) (⟨#[42]⟩ : ByteArray) = some (decide ((42 : UInt8) ∈ a.data.toList ++ g.data.toList)) := by
  unfold strings_Contains.f strings_Index.f stringslite_Index.f
  rw [show oneByte (⟨#[42]⟩ : ByteArray) = some 42 from rfl]
  simp only [Option.bind_some]
  rw [show (a ++ g).data.toList = a.data.toList ++ g.data.toList by rw [ByteArray.data_append, Array.toList_append]]
  congr 1
  exact decide_eq_decide.2 (by rw [idx_star])
theorem star_tail (a g s : ByteArray) (hz : a.size + g.size + s.size ≤ 1048576) (m : Nat) (hm : m ≤ 100) (k : Nat) (hk : 6100 ≤ k) :
    (if a.size + g.size ≤ 9223372036854775807 then ((strings_Contains.f (a ++ g) (⟨#[42]⟩ : ByteArray)).bind fun t313 => (if t313 = true then (some true) else (if g.toList = ([] : List UInt8) then (some true) else (if (decodeS g.data.toList (⟨#[]⟩ : ByteArray)).2 = 1 then (some true) else ((strings_Repeat.f g (m : Int)).bind fun t314 => (if a.size + t314.size ≤ 9223372036854775807 then ((codec_Decode.f k (a ++ t314) s).bind fun bt315 => (if bt315.2 = 0 then (if a.size + 1 ≤ 9223372036854775807 then (if (a ++ (⟨#[42]⟩ : ByteArray)).size + g.size ≤ 9223372036854775807 then ((codec_Decode.f k ((a ++ (⟨#[42]⟩ : ByteArray)) ++ g) s).bind fun bt319 => ((carillonlaw01_same.f k bt319.1 bt315.1).bind fun t323 => (if true = true then (if bt319.2 = 0 then (some t323) else (some false)) else (some false)))) else (none)) else (none)) else (some true))) else (none))))))) else (none)) = some true := by
  rw [if_pos (by omega), contains_is]
  simp only [Option.bind_some]
  by_cases h1 : (42 : UInt8) ∈ a.data.toList ++ g.data.toList
  · rw [decide_eq_true h1, if_pos rfl]
  rw [decide_eq_false h1, if_neg (by decide)]
  by_cases h2 : g.toList = ([] : List UInt8)
  · rw [if_pos h2]
  rw [if_neg h2]
  by_cases h3 : (decodeS g.data.toList (⟨#[]⟩ : ByteArray)).2 = 1
  · rw [if_pos h3]
  rw [if_neg h3]
  have nA : (42 : UInt8) ∉ a.data.toList := fun h => h1 (List.mem_append_left _ h)
  have nG : (42 : UInt8) ∉ g.data.toList := fun h => h1 (List.mem_append_right _ h)
  have hG : g.data.toList ≠ [] := by rw [← toList_eq]; exact h2
  have gl := letters_of nG h3
  have hmul : g.size * m ≤ 1048576 * 100 := Nat.mul_le_mul (by omega) hm
  unfold strings_Repeat.f
  rw [Int.toNat_natCast, if_pos ⟨by omega, by omega, by omega⟩]
  simp only [Option.bind_some]
  generalize hR : (⟨(Lib.repeatL g.data.toList m).toArray⟩ : ByteArray) = R
  have hRl : R.data.toList = (List.replicate m g.data.toList).flatten := by rw [← hR, ← repeatL_flat]
  have hRs : R.size = m * g.size := by
    rw [← data_len, hRl, ← repeatL_flat, Lib.repeatL_length, data_len]
  rw [Nat.mul_comm] at hmul
  have hAR : (a ++ R).data.toList = a.data.toList ++ (List.replicate m g.data.toList).flatten := by rw [ByteArray.data_append, Array.toList_append, hRl]
  have hARs : (a ++ R).size = a.size + R.size := ByteArray.size_append
  rw [if_pos (by omega), decode_is (a ++ R) s (by omega) (by omega) k (by omega), hAR]
  simp only [Option.bind_some]
  have hlen := decodeS_len (a.data.toList ++ (List.replicate m g.data.toList).flatten) s
  have hS := star_reads a.data.toList g.data.toList nA nG hG gl m s
  generalize decodeS (a.data.toList ++ (List.replicate m g.data.toList).flatten) s = q at hlen hS
  obtain ⟨l, e⟩ := q
  dsimp only at hlen ⊢
  by_cases h4 : e = 0
  case neg => rw [if_neg h4]
  subst h4
  have h1s : (a ++ (⟨#[42]⟩ : ByteArray)).size = a.size + 1 := ByteArray.size_append
  have h2s : ((a ++ (⟨#[42]⟩ : ByteArray)) ++ g).size = (a ++ (⟨#[42]⟩ : ByteArray)).size + g.size := ByteArray.size_append
  have hAS : ((a ++ (⟨#[42]⟩ : ByteArray)) ++ g).data.toList = a.data.toList ++ 42 :: g.data.toList := by
    rw [ByteArray.data_append, Array.toList_append, ByteArray.data_append, Array.toList_append, List.append_assoc]
    rfl
  rw [if_pos rfl, if_pos (by omega), if_pos (by omega), decode_is ((a ++ (⟨#[42]⟩ : ByteArray)) ++ g) s (by omega) (by omega) k (by omega), hAS, hS l rfl]
  simp only [Option.bind_some]
  rw [same_fX l (by omega) k (by omega)]
  simp
theorem star_all (a g : ByteArray) (c : Int) (s : ByteArray) (hz : a.size + g.size + s.size ≤ 1048576) (c1 : -9223372036854775808 ≤ c) (c2 : c ≤ 9223372036854775807) (k : Nat) (hk : 6100 ≤ k) : carillonlaw01_CodecStar.f k a g c s = some true := by
  unfold carillonlaw01_CodecStar.f
  rw [show carillonlaw01_examples.f = some true from rfl, decode_is g (⟨#[]⟩ : ByteArray) (by omega) (by show (0 : Nat) ≤ _; omega) k (by omega)]
  simp only [Option.bind_some]
  by_cases h : c < 0
  · have e : Int.tmod (wrap64 (-(wrap64 (c + 1)))) 101 = (((-(c + 1)).toNat % 101 : Nat) : Int) := by
      rw [show wrap64 (c + 1) = c + 1 by (rw [wrap64_id] <;> omega), show wrap64 (-(c + 1)) = -(c + 1) by (rw [wrap64_id] <;> omega), Int.tmod_eq_emod_of_nonneg (by omega)]
      omega
    rw [if_pos h, e]
    have := star_tail a g s hz ((-(c + 1)).toNat % 101) (by omega) k hk
    simpa only [if_true] using this
  · have e : Int.tmod c 101 = ((c.toNat % 101 : Nat) : Int) := by
      rw [Int.tmod_eq_emod_of_nonneg (by omega)]
      omega
    rw [if_neg h, e]
    have := star_tail a g s hz (c.toNat % 101) (by omega) k hk
    simpa only [if_true] using this
theorem CodecStar : carillonlaw01_CodecStar.PureUpto := by
  intro x0 x1 x2 x3 _ _ h2 _ hb
  have w := bounds_i64 h2
  dsimp only at hb
  exact ⟨6100, star_all x0 x1 x2 x3 (by omega) (by omega) (by omega) 6100 (Nat.le_refl _)⟩
end Go.Proofs.YthkncdnpfoccjaaDoor.P
