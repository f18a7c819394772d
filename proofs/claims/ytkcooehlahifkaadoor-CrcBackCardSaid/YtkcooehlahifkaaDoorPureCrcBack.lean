/- Framed bodies, one behind the other, are told as they were: the plain statement. -/
import Derived.Test.YtkcooehlahifkaaDoorKinds
import Derived.Test.YtkcooehlahifkaaDoorPlainE
namespace Go.Proofs.YtkcooehlahifkaaDoor.P
open Go.RowKit Go.Proofs.YtkcooehlahifkaaDoorW.PrintWords
set_option linter.unusedVariables false
def carillonlaw02_CrcBack.Pure : Prop := ∀ (x0 : List ByteArray), (fun l : List ByteArray => ∀ a ∈ l, (fun s : ByteArray => s.size ≤ maxLen) a) x0 → (∀ n ∈ (fun l : List ByteArray => l.length * 16 :: l.flatMap (fun s : ByteArray => [s.size])) x0, n ≤ 140737488351232) → ∃ k, carillonlaw02_CrcBack.f k x0 = some true
theorem rdOf_nat (x0 : List ByteArray) (i : Nat) : rdOf ByteArray.empty x0 (i : Int) = x0.getD i ByteArray.empty := rfl
theorem framesL_snoc (l : List ByteArray) (b : ByteArray) : framesL (l ++ [b]) = framesL l ++ frameL (ls b) := by
  rw [framesL_append, framesL, framesL, List.append_nil]
theorem back_loop (x0 : List ByteArray) (hl : x0.length ≤ 8796093022000) (k0 : Nat) (hk0 : x0.length + 2 < k0) (d : Nat) : ∀ (i : Nat) (s : ByteArray), i + d = x0.length → (∀ b ∈ x0.take i, b.size ≤ 400000) → ls s = framesL (x0.take i) → s.size ≤ 400008 * i →
    carillonlaw02_CrcBack.l0 (k0 + d + 1) x0 true s (i : Int) = some true := by
  induction d with
  | zero =>
    intro i s hi hb hs hz
    obtain rfl : i = x0.length := by omega
    rw [List.take_length] at hs hb
    rw [Nat.add_zero, carillonlaw02_CrcBack.l0, if_neg (by omega)]
    have ha : crc_All.f k0 s = some (x0, ((s.size : Nat) : Int), 0) := by
      have h := all_frames s (by omega) x0 0 k0 [] 0 [] hb (by rw [List.drop_zero, hs, List.append_nil]) (by omega) (by omega) (by rw [List.length_nil]; omega) (Or.inl ⟨rfl, rfl⟩)
      rw [List.nil_append, List.length_nil, Nat.sub_zero] at h
      exact h
    rw [ha, Option.bind_some]
    show (carillonlaw02_texts.f k0 x0 x0).bind _ = _
    rw [texts_refl x0 (by omega) k0 (by omega), Option.bind_some, if_pos rfl, if_pos rfl, if_pos rfl]
    rfl
  | succ d ih =>
    intro i s hi hb hs hz
    have hget : x0[i]? = some (x0.getD i ByteArray.empty) := by rw [List.getD_eq_getElem?_getD, List.getElem?_eq_getElem (by omega)]; rfl
    have ht : x0.take (i + 1) = x0.take i ++ [x0.getD i ByteArray.empty] := by
      rw [List.take_add_one, hget]
      rfl
    rw [show k0 + (d + 1) + 1 = (k0 + d + 1) + 1 by omega, carillonlaw02_CrcBack.l0, if_pos (by omega), if_pos (by omega), rdOf_nat]
    generalize x0.getD i ByteArray.empty = b at *
    rw [frame_is, Option.bind_some]
    by_cases h : (b.size : Int) > 400000
    · rw [if_pos h]
      show (if (3 : Int) = 0 then _ else (if true = true then some (decide ((b.size : Int) > 400000)) else some false)) = _
      rw [if_neg (by decide), if_pos rfl, decide_eq_true h]
    · rw [if_neg h]
      have hfz := frame_size b
      show (if (0 : Int) = 0 then (if s.size + (frame b).size ≤ 9223372036854775807 then carillonlaw02_CrcBack.l0 (k0 + d + 1) x0 true (s ++ frame b) (wrap64 ((i : Int) + 1)) else none) else _) = _
      have hbs : b.size ≤ 400000 := by omega
      rw [if_pos rfl, if_pos (by omega)]
      have hw : wrap64 ((i : Int) + 1) = ((i + 1 : Nat) : Int) := by unfold wrap64; omega
      rw [hw]
      refine ih (i + 1) (s ++ frame b) (by omega) ?_ ?_ ?_
      · intro x hx
        rw [ht] at hx
        rcases List.mem_append.1 hx with hx | hx
        · exact hb x hx
        · rw [List.mem_singleton] at hx
          rw [hx]
          exact hbs
      · rw [ls_append, hs, ht, framesL_snoc, frame_ls]
      · rw [ByteArray.size_append]
        omega
theorem CrcBack : carillonlaw02_CrcBack.Pure := by
  intro x0 _ hn
  have hl : x0.length * 16 ≤ 140737488351232 := hn _ List.mem_cons_self
  refine ⟨x0.length + 3 + x0.length + 1, ?_⟩
  unfold carillonlaw02_CrcBack.f carillonlaw02_examples.f
  rw [Option.bind_some]
  exact back_loop x0 (by omega) (x0.length + 3) (by omega) x0.length 0 _ (by omega) (by simp) (by rw [List.take_zero]; rfl) (by show (0 : Nat) ≤ _; omega)
end Go.Proofs.YtkcooehlahifkaaDoor.P
