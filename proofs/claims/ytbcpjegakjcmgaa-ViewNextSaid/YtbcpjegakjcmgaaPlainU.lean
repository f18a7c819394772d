/- The reference's next view is the program's. -/
import Derived.Test.YtbcpjegakjcmgaaPx7
import Derived.Test.YtbcpjegakjcmgaaPx8
import Derived.Test.YtbcpjegakjcmgaaPlainT
namespace Go.Proofs.Ytbcpjegakjcmgaa.P
open Go.RowKit Go.Proofs.YtbcpjegakjcmgaaW.PrintWords Go.Proofs.YtbcpjegakjcmgaaW.PrintLast Go.Proofs.YtbcpjegakjcmgaaW.PrintMore
set_option linter.unusedSimpArgs false
set_option linter.unusedVariables false
set_option maxRecDepth 100000
theorem rdI (l : List Int) (i : Nat) (h : i < l.length) : rd l (i : Int) = l[i] := by
  unfold rd
  rw [show ((i : Int)).toNat = i from rfl, List.getD_eq_getElem?_getD, List.getElem?_eq_getElem h]
  rfl
theorem rnext_l3 (num : Int) (ms alive : List VM) (wanted : List Int) (ha : alive.length ≤ 1000000000000000) (n : Nat) (hn : n < 7) (inW : Bool) (num' : Int) (out : List VM) (ho : out.length ≤ 7) (d : Nat) : ∀ (i k : Nat) (b : Int), i + d = alive.length → d < k →
    carillonref12_Next.l3 k alive wanted (n : Int) inW b (i : Int) num ms num' out = carillonref12_Next.l1 (k - d - 1) alive wanted ((n + 1 : Nat) : Int) num ms num' (out ++ if inW = true ∧ nxLife b (alive.drop i) n > 0 then [⟨(n : Int), nxLife b (alive.drop i) n⟩] else []) := by
  induction d with
  | zero =>
    intro i k b hi hk
    obtain ⟨k, rfl⟩ : ∃ x, k = x + 1 := ⟨k - 1, by omega⟩
    have ew : wrap64 ((n : Int) + 1) = ((n + 1 : Nat) : Int) := by unfold wrap64; omega
    simp only [carillonref12_Next.l3]
    rw [if_neg (by omega), List.drop_of_length_le (by omega), ew, show k + 1 - 0 - 1 = k by omega, show nxLife b [] (n : Int) = b from rfl]
    by_cases h1 : inW = true
    · rw [if_pos h1]
      by_cases h2 : b > 0
      · rw [if_pos h2, if_pos (by omega), if_pos ⟨h1, h2⟩]
      · rw [if_neg h2, if_neg (fun h => h2 h.2), List.append_nil]
    · rw [if_neg h1, if_neg (fun h => h1 h.1), List.append_nil]
  | succ d ih =>
    intro i k b hi hk
    obtain ⟨k, rfl⟩ : ∃ x, k = x + 1 := ⟨k - 1, by omega⟩
    have hlt : i < alive.length := by omega
    have ew : wrap64 ((i : Int) + 1) = ((i + 1 : Nat) : Int) := by unfold wrap64; omega
    have el : nxLife b (alive.drop i) n = nxLife (if alive[i].f0 = n then nmx b alive[i].f1 else b) (alive.drop (i + 1)) n := by
      rw [List.drop_eq_getElem_cons hlt]
      rfl
    simp only [carillonref12_Next.l3]
    rw [if_pos (by omega), if_pos (by omega), rdM alive i hlt, ew, el]
    by_cases h : alive[i].f0 = (n : Int)
    · rw [if_pos h, if_pos h, ih (i + 1) k _ (by omega) (by omega), show k + 1 - (d + 1) - 1 = k - d - 1 by omega]
      rfl
    · rw [if_neg h, if_neg h, ih (i + 1) k _ (by omega) (by omega), show k + 1 - (d + 1) - 1 = k - d - 1 by omega]
theorem rnext_l2 (num : Int) (ms alive : List VM) (wanted : List Int) (hw : wanted.length ≤ 4611686018427387904) (n : Nat) (num' : Int) (out : List VM) (d : Nat) : ∀ (i k : Nat) (b : Bool), i + d = wanted.length → d < k →
    carillonref12_Next.l2 k alive wanted (n : Int) b (i : Int) num ms num' out = carillonref12_Next.l3 (k - d - 1) alive wanted (n : Int) (b || decide ((n : Int) ∈ wanted.drop i)) 0 0 num ms num' out := by
  induction d with
  | zero =>
    intro i k b hi hk
    obtain ⟨k, rfl⟩ : ∃ x, k = x + 1 := ⟨k - 1, by omega⟩
    simp only [carillonref12_Next.l2]
    rw [if_neg (by omega), List.drop_of_length_le (by omega), show k + 1 - 0 - 1 = k by omega]
    simp
  | succ d ih =>
    intro i k b hi hk
    obtain ⟨k, rfl⟩ : ∃ x, k = x + 1 := ⟨k - 1, by omega⟩
    have hlt : i < wanted.length := by omega
    have ew : wrap64 ((i : Int) + 1) = ((i + 1 : Nat) : Int) := by unfold wrap64; omega
    simp only [carillonref12_Next.l2]
    rw [if_pos (by omega), List.drop_eq_getElem_cons hlt, ew]
    cases b with
    | true =>
      rw [if_pos rfl, ih (i + 1) k true (by omega) (by omega), show k + 1 - (d + 1) - 1 = k - d - 1 by omega]
      simp
    | false =>
      rw [if_neg (by decide), if_pos (by omega), rdI wanted i hlt, ih (i + 1) k _ (by omega) (by omega), show k + 1 - (d + 1) - 1 = k - d - 1 by omega]
      congr 1
      have e : decide ((n : Int) ∈ wanted[i] :: wanted.drop (i + 1)) = (decide (wanted[i] = (n : Int)) || decide ((n : Int) ∈ wanted.drop (i + 1))) := by
        rw [← Bool.decide_or]
        exact decide_eq_decide.2 (by rw [List.mem_cons, eq_comm])
      rw [Bool.false_or, e]
      rfl
theorem rnext_l1 (num : Int) (ms alive : List VM) (wanted : List Int) (hms : ms.length ≤ 1000000000000000) (ha : alive.length ≤ 1000000000000000) (hw : wanted.length ≤ 4611686018427387904) (num' : Int) (d : Nat) : ∀ (n k : Nat) (out : List VM), n + d = 7 → out.length ≤ n → (d + 1) * (alive.length + wanted.length + 5) + ms.length + 10 < k →
    carillonref12_Next.l1 k alive wanted (n : Int) num ms num' out = some (if (ms.filter (hasS (out ++ outFrom (lifeW wanted alive) d n))).length < ms.length / 2 + 1 then (0, [], 12) else (num', out ++ outFrom (lifeW wanted alive) d n, 0)) := by
  induction d with
  | zero =>
    intro n k out hn ho hk
    obtain ⟨k, rfl⟩ : ∃ x, k = x + 1 := ⟨k - 1, by omega⟩
    simp only [carillonref12_Next.l1]
    rw [if_neg (by omega), rcommon_is _ _ _ _ (by omega) (by omega) k (by omega), rmaj_is _ _ hms]
    simp only [Option.bind_some, outFrom, List.append_nil]
    by_cases h : (ms.filter (hasS out)).length < ms.length / 2 + 1
    · rw [if_pos h, if_pos (by omega)]
    · rw [if_neg h, if_neg (by omega)]
  | succ d ih =>
    intro n k out hn ho hk
    obtain ⟨k, rfl⟩ : ∃ x, k = x + 1 := ⟨k - 1, by omega⟩
    have hk' : (d + 1) * (alive.length + wanted.length + 5) + (alive.length + wanted.length + 5) + ms.length + 10 < k + 1 := by
      have e : (d + 1 + 1) * (alive.length + wanted.length + 5) = (d + 1) * (alive.length + wanted.length + 5) + (alive.length + wanted.length + 5) := Nat.succ_mul ..
      omega
    have hb : outFrom (lifeW wanted alive) (d + 1) n = (if ((false || decide ((n : Int) ∈ wanted)) = true ∧ nxLife 0 alive n > 0) then [⟨(n : Int), nxLife 0 alive n⟩] else []) ++ outFrom (lifeW wanted alive) d (n + 1) := by
      simp only [outFrom]
      congr 1
      unfold lifeW
      by_cases h1 : (n : Int) ∈ wanted
      · rw [if_pos h1]
        simp [h1]
      · rw [if_neg h1]
        simp [h1]
    simp only [carillonref12_Next.l1]
    rw [if_pos (by omega)]
    have e2 := rnext_l2 num ms alive wanted hw n num' out wanted.length 0 k false (by omega) (by omega)
    rw [List.drop_zero] at e2
    rw [show carillonref12_Next.l2 k alive wanted (n : Int) false 0 num ms num' out = _ from e2]
    have e3 := rnext_l3 num ms alive wanted ha n (by omega) (false || decide ((n : Int) ∈ wanted)) num' out (by omega) alive.length 0 (k - wanted.length - 1) 0 (by omega) (by omega)
    rw [List.drop_zero] at e3
    rw [show carillonref12_Next.l3 (k - wanted.length - 1) alive wanted (n : Int) (false || decide ((n : Int) ∈ wanted)) 0 0 num ms num' out = _ from e3]
    rw [ih (n + 1) _ _ (by omega) (by rw [List.length_append]; split <;> simp <;> omega) (by omega), List.append_assoc, ← hb]
theorem rnext_l0 (num : Int) (ms alive : List VM) (wanted : List Int) (ha : alive.length ≤ 1000000000000000) (d : Nat) : ∀ (i k : Nat), i + d = alive.length → d < k →
    carillonref12_Next.l0 k alive wanted (i : Int) num ms = if rmAll (alive.drop i) = true then carillonref12_Next.l1 (k - d - 1) alive wanted 0 num ms (wrap64 (num + 1)) [] else some (0, [], 1) := by
  induction d with
  | zero =>
    intro i k hi hk
    obtain ⟨k, rfl⟩ : ∃ x, k = x + 1 := ⟨k - 1, by omega⟩
    simp only [carillonref12_Next.l0]
    rw [if_neg (by omega), List.drop_of_length_le (by omega), if_pos (show rmAll [] = true from rfl)]
    rfl
  | succ d ih =>
    intro i k hi hk
    obtain ⟨k, rfl⟩ : ∃ x, k = x + 1 := ⟨k - 1, by omega⟩
    have hlt : i < alive.length := by omega
    have ew : wrap64 ((i : Int) + 1) = ((i + 1 : Nat) : Int) := by unfold wrap64; omega
    simp only [carillonref12_Next.l0]
    rw [if_pos (by omega), if_pos (by omega), rdM alive i hlt, ew, rrm_is, List.drop_eq_getElem_cons hlt]
    simp only [Option.bind_some]
    have hall : ∀ r, rmAll (alive[i] :: r) = (decide (RM alive[i].f0 alive[i].f1) && rmAll r) := fun r => by unfold rmAll; rw [List.all_cons]
    rw [hall]
    by_cases h : RM alive[i].f0 alive[i].f1
    · rw [if_pos (by simpa using h), ih (i + 1) k (by omega) (by omega), show k + 1 - (d + 1) - 1 = k - d - 1 by omega]
      simp [h]
    · rw [if_neg (by simpa using h)]
      simp [h]
theorem rnext_is (num : Int) (ms alive : List VM) (wanted : List Int) (hms : ms.length ≤ 1000000000000000) (ha : alive.length ≤ 1000000000000000) (hw : wanted.length ≤ 4611686018427387904) (k : Nat) (hk : 8 * (alive.length + wanted.length + 5) + alive.length + ms.length + 20 < k) :
    carillonref12_Next.f k num ms alive wanted = some (nextS num ms alive wanted) := by
  unfold carillonref12_Next.f nextS
  rw [rright_is num ms (by omega) k (by omega)]
  simp only [Option.bind_some]
  by_cases hv : ViewP num ms = true
  · rw [if_pos hv]
    by_cases hn : num = 9007199254740991
    · rw [if_pos hn, if_neg (fun h => h.2 hn)]
    · rw [if_neg hn, if_pos ⟨hv, hn⟩]
      have hb : 1 ≤ num ∧ num ≤ 9007199254740991 := by
        unfold ViewP at hv
        simp only [Bool.and_eq_true, decide_eq_true_eq] at hv
        exact ⟨hv.1.1.2, hv.1.2⟩
      have e0 := rnext_l0 num ms alive wanted ha alive.length 0 k (by omega) (by omega)
      rw [List.drop_zero] at e0
      rw [show carillonref12_Next.l0 k alive wanted 0 num ms = _ from e0]
      by_cases hr : rmAll alive = true
      · rw [if_pos hr, if_pos hr]
        have e1 := rnext_l1 num ms alive wanted hms ha hw (wrap64 (num + 1)) 7 0 (k - alive.length - 1) [] (by omega) (by simp) (by omega)
        rw [List.nil_append, show wrap64 (num + 1) = num + 1 by unfold wrap64; omega] at e1
        rw [show wrap64 (num + 1) = num + 1 by unfold wrap64; omega]
        exact e1
      · rw [if_neg hr, if_neg hr]
  · rw [if_neg hv, if_neg (fun h => hv h.1)]
theorem views_loop (n n' : Int) (l : List VM) (hl : l.length ≤ 1000000000000000) (d : Nat) : ∀ (i k : Nat), i + d = l.length → d < k → carillonlaw12_views.l0 k (i : Int) n l n' l = some true := by
  induction d with
  | zero =>
    intro i k hi hk
    obtain ⟨k, rfl⟩ : ∃ x, k = x + 1 := ⟨k - 1, by omega⟩
    simp only [carillonlaw12_views.l0]
    rw [if_neg (by omega)]
  | succ d ih =>
    intro i k hi hk
    obtain ⟨k, rfl⟩ : ∃ x, k = x + 1 := ⟨k - 1, by omega⟩
    have ew : wrap64 ((i : Int) + 1) = ((i + 1 : Nat) : Int) := by unfold wrap64; omega
    simp only [carillonlaw12_views.l0]
    rw [if_pos (by omega), if_pos (by omega), if_pos (by omega), ew, ih (i + 1) k (by omega) (by omega), if_neg (by simp)]
theorem viewsL_is (n : Int) (l : List VM) (hl : l.length ≤ 1000000000000000) (k : Nat) (hk : l.length < k) : carillonlaw12_views.f k n l n l = some true := by
  unfold carillonlaw12_views.f
  rw [if_pos rfl, if_pos rfl]
  exact views_loop n n l hl l.length 0 k (by omega) hk
end Go.Proofs.Ytbcpjegakjcmgaa.P
