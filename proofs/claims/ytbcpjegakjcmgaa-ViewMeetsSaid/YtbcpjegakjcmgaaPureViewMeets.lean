/- The law ViewMeets, over plain functions. -/
import Derived.Test.YtbcpjegakjcmgaaKinds
import Derived.Test.YtbcpjegakjcmgaaPlainN
import Derived.Test.YtbcpjegakjcmgaaPx9
namespace Go.Proofs.Ytbcpjegakjcmgaa.P
open Go.RowKit Go.Proofs.YtbcpjegakjcmgaaW.PrintWords
set_option linter.unusedVariables false
set_option linter.unusedSimpArgs false
set_option maxRecDepth 100000
def carillonlaw12_ViewMeets.Pure : Prop := ∀ (x0 : S24) (x1 : List S26) (x2 : List S26) (x3 : List Int), wf24 x0 → (∀ n ∈ lens24 x0, n ≤ 140737488351232) → (fun l : List S26 => ∀ a ∈ l, wf26 a) x1 → (∀ n ∈ (fun l : List S26 => l.length * 16 :: l.flatMap lens26) x1, n ≤ 140737488351232) → (fun l : List S26 => ∀ a ∈ l, wf26 a) x2 → (∀ n ∈ (fun l : List S26 => l.length * 16 :: l.flatMap lens26) x2, n ≤ 140737488351232) → (fun l : List Int => ∀ a ∈ l, (fun n : Int => (Lit.int .i64 n).wf = true) a) x3 → (∀ n ∈ (fun l : List Int => l.length * 8 :: l.flatMap (fun _ : Int => ([] : List Nat))) x3, n ≤ 140737488351232) → ∃ k, carillonlaw12_ViewMeets.f k (x0.f0) (x0.f1) x1 x2 x3 = some true
theorem count_two (p q : VM → Bool) : ∀ l : List VM, (l.filter p).length + (l.filter q).length ≤ l.length + (l.filter fun x => p x && q x).length
  | [] => Nat.le_refl _
  | a :: r => by
    have := count_two p q r
    cases h1 : p a <;> cases h2 : q a <;> simp [List.filter_cons, h1, h2] <;> omega
theorem meets_l3 (alive : List VM) (wanted : List Int) (hw : wanted.length ≤ 4611686018427387904) (x14 num : Int) (ms : List VM) (num' : Int) (out : List VM) (i : Nat) (hi : i < out.length) (hol : out.length ≤ 7) (d : Nat) : ∀ (j k : Nat) (b : Bool), j + d = wanted.length → d < k → (b || decide ((out[i]).f0 ∈ wanted.drop j)) = true →
    carillonlaw12_ViewMeets.l3 k alive wanted true x14 (i : Int) true b (j : Int) num ms num' out = carillonlaw12_ViewMeets.l1 (k - d - 1) alive wanted true x14 ((i + 1 : Nat) : Int) num ms num' out := by
  induction d with
  | zero =>
    intro j k b hj hk hb
    obtain ⟨k, rfl⟩ : ∃ x, k = x + 1 := ⟨k - 1, by omega⟩
    have ew : wrap64 ((i : Int) + 1) = ((i + 1 : Nat) : Int) := by unfold wrap64; omega
    rw [List.drop_of_length_le (by omega)] at hb
    have hb' : b = true := by simpa using hb
    simp only [carillonlaw12_ViewMeets.l3]
    rw [if_neg (by omega), if_pos trivial, if_pos hb', ew, show k + 1 - 0 - 1 = k by omega]
  | succ d ih =>
    intro j k b hj hk hb
    obtain ⟨k, rfl⟩ : ∃ x, k = x + 1 := ⟨k - 1, by omega⟩
    have hlt : j < wanted.length := by omega
    have ew : wrap64 ((j : Int) + 1) = ((j + 1 : Nat) : Int) := by unfold wrap64; omega
    have hrd : rd wanted (j : Int) = wanted[j] := by
      unfold rd
      rw [show ((j : Int)).toNat = j from rfl, List.getD_eq_getElem?_getD, List.getElem?_eq_getElem hlt]
      rfl
    rw [List.drop_eq_getElem_cons hlt] at hb
    simp only [carillonlaw12_ViewMeets.l3]
    rw [if_pos (by omega), ew]
    cases b with
    | true =>
      rw [if_pos rfl, ih (j + 1) k true (by omega) (by omega) (by simp), show k + 1 - (d + 1) - 1 = k - d - 1 by omega]
    | false =>
      rw [if_neg (by decide), if_pos (by omega), if_pos (by omega), if_pos (by omega), hrd, rdM out i hi, ih (j + 1) k _ (by omega) (by omega) ?_, show k + 1 - (d + 1) - 1 = k - d - 1 by omega]
      rw [Bool.false_or, decide_eq_true_eq, List.mem_cons] at hb
      rw [Bool.or_eq_true, decide_eq_true_eq, beq_iff_eq]
      exact hb.imp Eq.symm id
theorem meets_l2 (alive : List VM) (wanted : List Int) (ha : alive.length ≤ 4611686018427387904) (x14 num : Int) (ms : List VM) (num' : Int) (out : List VM) (i : Nat) (hi : i < out.length) (hol : out.length ≤ 7) (d : Nat) : ∀ (j k : Nat) (b : Bool), j + d = alive.length → d < k → (b || hasS (alive.drop j) out[i]) = true →
    carillonlaw12_ViewMeets.l2 k alive wanted true x14 (i : Int) b (j : Int) num ms num' out = carillonlaw12_ViewMeets.l3 (k - d - 1) alive wanted true x14 (i : Int) true false 0 num ms num' out := by
  induction d with
  | zero =>
    intro j k b hj hk hb
    obtain ⟨k, rfl⟩ : ∃ x, k = x + 1 := ⟨k - 1, by omega⟩
    rw [List.drop_of_length_le (by omega), hasS_nil, Bool.or_false] at hb
    have hb' : b = true := hb
    simp only [carillonlaw12_ViewMeets.l2]
    rw [if_neg (by omega), hb', show k + 1 - 0 - 1 = k by omega]
  | succ d ih =>
    intro j k b hj hk hb
    obtain ⟨k, rfl⟩ : ∃ x, k = x + 1 := ⟨k - 1, by omega⟩
    have hlt : j < alive.length := by omega
    have ew : wrap64 ((j : Int) + 1) = ((j + 1 : Nat) : Int) := by unfold wrap64; omega
    rw [List.drop_eq_getElem_cons hlt] at hb
    simp only [carillonlaw12_ViewMeets.l2]
    rw [if_pos (by omega), ew]
    cases b with
    | true =>
      rw [if_pos rfl, ih (j + 1) k true (by omega) (by omega) (by simp), show k + 1 - (d + 1) - 1 = k - d - 1 by omega]
    | false =>
      rw [if_neg (by decide), if_pos (by omega), if_pos (by omega), if_pos (by omega), rdM alive j hlt, rdM out i hi, ih (j + 1) k _ (by omega) (by omega) ?_, show k + 1 - (d + 1) - 1 = k - d - 1 by omega]
      rw [Bool.false_or] at hb
      exact hb
theorem meets_l1 (alive : List VM) (wanted : List Int) (ha : alive.length ≤ 4611686018427387904) (hw : wanted.length ≤ 4611686018427387904) (x14 num : Int) (h14 : x14 > 0) (hnum : num + 1 ≤ 9007199254740991 ∧ 1 ≤ num) (ms : List VM) (hms : ms.length ≤ 1000000000000000) (out : List VM) (hol : out.length ≤ 7)
    (h1 : ∀ x ∈ out, x ∈ alive ∧ x.f0 ∈ wanted) (h2 : ms.length / 2 + 1 ≤ (ms.filter (hasS out)).length) (h3 : ViewP (num + 1) out = true) (d : Nat) : ∀ (i k : Nat), i + d = out.length → (d + 1) * (alive.length + wanted.length + 5) + 20 < k →
    carillonlaw12_ViewMeets.l1 k alive wanted true x14 (i : Int) num ms (num + 1) out = some true := by
  induction d with
  | zero =>
    intro i k hi hk
    obtain ⟨k, rfl⟩ : ∃ x, k = x + 1 := ⟨k - 1, by omega⟩
    simp only [carillonlaw12_ViewMeets.l1]
    rw [if_neg (by omega), if_pos trivial, if_pos h14, vcommon_is _ _ _ _ hms (by omega), vmaj_is _ _ hms]
    simp only [Option.bind_some]
    rw [if_pos (by omega), vright_is _ _ (by omega) k (by omega)]
    simp only [Option.bind_some]
    rw [if_pos h3, show wrap64 (num + 1) = num + 1 by unfold wrap64; omega]
    simp
  | succ d ih =>
    intro i k hi hk
    obtain ⟨k, rfl⟩ : ∃ x, k = x + 1 := ⟨k - 1, by omega⟩
    have hlt : i < out.length := by omega
    have hk' : (d + 1) * (alive.length + wanted.length + 5) + (alive.length + wanted.length + 5) + 20 < k + 1 := by
      have e : (d + 1 + 1) * (alive.length + wanted.length + 5) = (d + 1) * (alive.length + wanted.length + 5) + (alive.length + wanted.length + 5) := Nat.succ_mul ..
      omega
    obtain ⟨g1, g2⟩ := h1 out[i] (List.getElem_mem hlt)
    simp only [carillonlaw12_ViewMeets.l1]
    rw [if_pos (by omega)]
    have e2 := meets_l2 alive wanted ha x14 num ms (num + 1) out i hlt hol alive.length 0 k false (by omega) (by omega) (by rw [List.drop_zero, Bool.false_or, hasS_mem]; exact g1)
    have e3 := meets_l3 alive wanted hw x14 num ms (num + 1) out i hlt hol wanted.length 0 (k - alive.length - 1) false (by omega) (by omega) (by rw [List.drop_zero, Bool.false_or, decide_eq_true_eq]; exact g2)
    rw [show carillonlaw12_ViewMeets.l2 k alive wanted true x14 (i : Int) false 0 num ms (num + 1) out = _ from e2]
    rw [show carillonlaw12_ViewMeets.l3 (k - alive.length - 1) alive wanted true x14 (i : Int) true false 0 num ms (num + 1) out = _ from e3]
    exact ih (i + 1) _ (by omega) (by omega)
theorem meets_l0 (alive : List VM) (wanted : List Int) (num num' num'' : Int) (ms : List VM) (hms : ms.length ≤ 1000000000000000) (out out' : List VM) (hol : out.length ≤ 7) (hol' : out'.length ≤ 7) (K : Nat)
    (hK : ∀ (x : Int) (k : Nat), x > 0 → K < k → carillonlaw12_ViewMeets.l1 k alive wanted true x 0 num ms num' out = some true) (d : Nat) : ∀ (i k c : Nat), i + d = ms.length → c ≤ i → d + K + 20 < k → 0 < c + ((ms.drop i).filter fun x => hasS out x && hasS out' x).length →
    carillonlaw12_ViewMeets.l0 k alive wanted true (c : Int) (i : Int) num ms num' out num'' out' = some true := by
  induction d with
  | zero =>
    intro i k c hi hc hk hp
    obtain ⟨k, rfl⟩ : ∃ x, k = x + 1 := ⟨k - 1, by omega⟩
    rw [List.drop_of_length_le (by omega)] at hp
    simp at hp
    simp only [carillonlaw12_ViewMeets.l0]
    rw [if_neg (by omega)]
    exact hK _ _ (by omega) (by omega)
  | succ d ih =>
    intro i k c hi hc hk hp
    obtain ⟨k, rfl⟩ : ∃ x, k = x + 1 := ⟨k - 1, by omega⟩
    have hlt : i < ms.length := by omega
    have ew : wrap64 ((i : Int) + 1) = ((i + 1 : Nat) : Int) := by unfold wrap64; omega
    have ec : wrap64 ((c : Int) + 1) = ((c + 1 : Nat) : Int) := by unfold wrap64; omega
    rw [List.drop_eq_getElem_cons hlt] at hp
    simp only [carillonlaw12_ViewMeets.l0]
    rw [if_pos (by omega), if_pos (by omega), rdM ms i hlt, ew, vhas_is num' out _ _ (by omega) k (by omega)]
    simp only [Option.bind_some]
    by_cases h1 : hasS out ms[i] = true
    · rw [if_pos h1, vhas_is num'' out' _ _ (by omega) k (by omega)]
      simp only [Option.bind_some]
      by_cases h2 : hasS out' ms[i] = true
      · rw [if_pos h2, ec]
        exact ih (i + 1) k (c + 1) (by clear hp; omega) (by clear hp; omega) (by clear hp; omega) (Nat.add_pos_left (Nat.succ_pos c) _)
      · rw [if_neg h2]
        rw [List.filter_cons_of_neg (by simp [h2])] at hp
        exact ih (i + 1) k c (by clear hp; omega) (by clear hp; omega) (by clear hp; omega) hp
    · rw [if_neg h1]
      rw [List.filter_cons_of_neg (by simp [h1])] at hp
      exact ih (i + 1) k c (by clear hp; omega) (by clear hp; omega) (by clear hp; omega) hp
theorem meets_all (num : Int) (ms one two : List VM) (wanted : List Int) (hms : ms.length ≤ 1000000000000000) (ha : one.length ≤ 1000000000000000) (hb : two.length ≤ 1000000000000000) (hw : wanted.length ≤ 4611686018427387904) (k : Nat) (hk : 8 * (one.length + two.length + wanted.length + 5) + ms.length + 200 < k) :
    carillonlaw12_ViewMeets.f k num ms one two wanted = some true := by
  unfold carillonlaw12_ViewMeets.f
  rw [show carillonlaw12_examples.f = some true from rfl, vnext_is num ms one wanted hms ha hw k (by omega), vnext_is num ms two wanted hms hb hw k (by omega)]
  simp only [Option.bind_some]
  obtain ⟨n1, o1, e1, h1⟩ : ∃ n1 o1 e1, nextS num ms one wanted = (n1, o1, e1) := ⟨_, _, _, rfl⟩
  obtain ⟨n2, o2, e2, h2⟩ : ∃ n2 o2 e2, nextS num ms two wanted = (n2, o2, e2) := ⟨_, _, _, rfl⟩
  rw [h1, h2]
  dsimp only
  have hl1 := nextS_len num ms one wanted
  have hl2 := nextS_len num ms two wanted
  rw [h1] at hl1
  rw [h2] at hl2
  dsimp only at hl1 hl2
  by_cases he1 : e1 = 0
  · rw [if_pos he1]
    by_cases he2 : e2 = 0
    · rw [if_pos he2]
      subst he1 he2
      obtain ⟨p1, p2, p3, rfl, p5, p6⟩ := nextS_ok h1
      obtain ⟨_, _, _, q4, q5, q6⟩ := nextS_ok h2
      have p1' := p1
      unfold ViewP at p1'
      simp only [Bool.and_eq_true, decide_eq_true_eq] at p1'
      have hmem : ∀ x ∈ o1, x ∈ one ∧ x.f0 ∈ wanted := by
        intro x hx
        rw [p5] at hx
        obtain ⟨n, _, _, rfl, hpos⟩ := outFrom_mem _ _ _ _ hx
        unfold lifeW at hpos ⊢
        by_cases hin : (n : Int) ∈ wanted
        · rw [if_pos hin] at hpos ⊢
          rcases life_from one n 0 with h0 | ⟨m, hm, hm0, hm1⟩
          · rw [h0] at hpos; omega
          · exact ⟨(vm_ext (a := m) (b := ⟨(n : Int), nxLife 0 one n⟩) hm0 hm1) ▸ hm, hin⟩
        · rw [if_neg hin] at hpos; omega
      have hne : 0 < o1.length := by
        cases o1 with
        | nil => rw [filter_hasS_nil] at p6; simp at p6
        | cons => simp
      have hv : ViewP (num + 1) o1 = true := by
        unfold ViewP
        rw [p5, outFrom_VR _ (lifeW_le wanted one p3) 7 0 (-1) (by omega) (by omega), ← p5]
        simp only [Bool.true_and, Bool.and_eq_true, decide_eq_true_eq]
        omega
      have hcnt := count_two (hasS o1) (hasS o2) ms
      have hm : 0 < (ms.filter fun x => hasS o1 x && hasS o2 x).length := by
        refine Nat.pos_of_ne_zero fun e => ?_
        have h3 := Nat.le_trans hcnt (Nat.add_le_add_left (Nat.le_of_eq e) _)
        clear hcnt e
        omega
      exact meets_l0 one wanted num (num + 1) n2 ms hms o1 o2 hl1 hl2 (8 * (one.length + wanted.length + 5) + 20) (fun x k' hx hk' => meets_l1 one wanted (by omega) hw x num hx (by omega) ms hms o1 hl1 hmem p6 hv o1.length 0 k' (by omega) (by
        have : (o1.length + 1) * (one.length + wanted.length + 5) ≤ 8 * (one.length + wanted.length + 5) := Nat.mul_le_mul_right _ (by omega)
        omega)) ms.length 0 k 0 (by omega) (by omega) (by omega) (by rw [List.drop_zero, Nat.zero_add]; exact hm)
    · rw [if_neg he2, if_pos trivial]
  · rw [if_neg he1, if_pos trivial, (nextS_bad h1 he1).2]
    rfl
theorem ViewMeets : carillonlaw12_ViewMeets.Pure := by
  intro x0 x1 x2 x3 _ hn0 _ hn1 _ hn2 _ hn3
  have h0 := hn0 _ (List.mem_cons_self ..)
  have h1 := hn1 _ (List.mem_cons_self ..)
  have h2 := hn2 _ (List.mem_cons_self ..)
  have h3 := hn3 _ (List.mem_cons_self ..)
  exact ⟨_, meets_all _ _ _ _ _ (by omega) (by omega) (by omega) (by omega) (8 * (x1.length + x2.length + x3.length + 5) + x0.f1.length + 201) (by omega)⟩
end Go.Proofs.Ytbcpjegakjcmgaa.P
