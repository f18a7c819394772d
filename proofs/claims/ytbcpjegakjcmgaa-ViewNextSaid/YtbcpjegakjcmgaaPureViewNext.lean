/- The law ViewNext, over plain functions. -/
import Derived.Test.YtbcpjegakjcmgaaKinds
import Derived.Test.YtbcpjegakjcmgaaPlainU
import Derived.Test.YtbcpjegakjcmgaaPx8
namespace Go.Proofs.Ytbcpjegakjcmgaa.P
open Go.RowKit Go.Proofs.YtbcpjegakjcmgaaW.PrintWords
set_option linter.unusedVariables false
set_option linter.unusedSimpArgs false
set_option maxRecDepth 100000
def carillonlaw12_ViewNext.Pure : Prop := ∀ (x0 : S24) (x1 : List S26) (x2 : List Int), wf24 x0 → (∀ n ∈ lens24 x0, n ≤ 140737488351232) → (fun l : List S26 => ∀ a ∈ l, wf26 a) x1 → (∀ n ∈ (fun l : List S26 => l.length * 16 :: l.flatMap lens26) x1, n ≤ 140737488351232) → (fun l : List Int => ∀ a ∈ l, (fun n : Int => (Lit.int .i64 n).wf = true) a) x2 → (∀ n ∈ (fun l : List Int => l.length * 8 :: l.flatMap (fun _ : Int => ([] : List Nat))) x2, n ≤ 140737488351232) → ∃ k, carillonlaw12_ViewNext.f k (x0.f0) (x0.f1) x1 x2 = some true
theorem zero_loop (l1 : List VM) (l2 : List Int) (x7 : Bool) (x9 x10 n : Int) (ms : List VM) (n2 : Int) (o2 : List VM) (n3 : Int) (K : Nat) (hK : ∀ k, K ≤ k → carillonlaw12_ViewNext.l0 k l1 l2 x7 x9 (wrap64 (x10 + 1)) n ms n2 o2 = some true) (d : Nat) : ∀ (i k : Nat) (o3 : List VM), i + d = o3.length → o3.length ≤ 1000000000000000 → d + K < k →
    carillonlaw12_ViewNext.l1 k l1 l2 x7 x9 x10 (i : Int) n ms n2 o2 n3 o3 = some true := by
  induction d with
  | zero =>
    intro i k o3 hi hl hk
    obtain ⟨k, rfl⟩ : ∃ x, k = x + 1 := ⟨k - 1, by omega⟩
    simp only [carillonlaw12_ViewNext.l1]
    rw [if_neg (by omega), hK k (by omega)]
  | succ d ih =>
    intro i k o3 hi hl hk
    obtain ⟨k, rfl⟩ : ∃ x, k = x + 1 := ⟨k - 1, by omega⟩
    have ew : wrap64 ((i : Int) + 1) = ((i + 1 : Nat) : Int) := by unfold wrap64; omega
    simp only [carillonlaw12_ViewNext.l1]
    rw [if_pos (by omega), if_pos (by omega), ew]
    exact ih (i + 1) k _ (by rw [List.length_set]; omega) (by rw [List.length_set]; omega) (by omega)
theorem next_all (num : Int) (ms alive : List VM) (wanted : List Int) (hms : ms.length ≤ 1000000000000000) (ha : alive.length ≤ 1000000000000000) (hw : wanted.length ≤ 4611686018427387904) (k : Nat) (hk : 8 * (alive.length + wanted.length + 5) + alive.length + 2 * ms.length + 100 < k) :
    carillonlaw12_ViewNext.f k num ms alive wanted = some true := by
  have hl := nextS_len num ms alive wanted
  have h2 : ∀ k', 1 ≤ k' → carillonlaw12_ViewNext.l0 k' alive wanted true (nextS num ms alive wanted).2.2 (2 : Int) num ms (nextS num ms alive wanted).1 (nextS num ms alive wanted).2.1 = some true := by
    intro k' hk'
    obtain ⟨k', rfl⟩ : ∃ x, k' = x + 1 := ⟨k' - 1, by omega⟩
    simp only [carillonlaw12_ViewNext.l0]
    rw [if_neg (by omega)]
  have hr : ∀ (x : Int), x < 2 → ∀ (K : Nat), (∀ k', K ≤ k' → carillonlaw12_ViewNext.l0 k' alive wanted true (nextS num ms alive wanted).2.2 (wrap64 (x + 1)) num ms (nextS num ms alive wanted).1 (nextS num ms alive wanted).2.1 = some true) →
      ∀ k', K + alive.length + wanted.length + ms.length + 30 ≤ k' → carillonlaw12_ViewNext.l0 k' alive wanted true (nextS num ms alive wanted).2.2 x num ms (nextS num ms alive wanted).1 (nextS num ms alive wanted).2.1 = some true := by
    intro x hx K hK k' hk'
    obtain ⟨k', rfl⟩ : ∃ z, k' = z + 1 := ⟨k' - 1, by omega⟩
    simp only [carillonlaw12_ViewNext.l0]
    rw [if_pos hx, vnext_is num ms alive wanted hms ha hw k' (by omega)]
    simp only [Option.bind_some]
    rw [viewsL_is _ _ (by omega) k' (by omega)]
    simp only [Option.bind_some, if_true]
    exact zero_loop alive wanted true _ x num ms _ _ _ K hK (nextS num ms alive wanted).2.1.length 0 k' _ (by omega) (by omega) (by omega)
  unfold carillonlaw12_ViewNext.f
  rw [show carillonlaw12_examples.f = some true from rfl, rnext_is num ms alive wanted hms ha hw k (by omega)]
  simp only [Option.bind_some]
  have h1 := hr 1 (by omega) 1 (fun k' hk' => by rw [show wrap64 (1 + 1) = 2 from by unfold wrap64; omega]; exact h2 k' hk')
  exact hr 0 (by omega) (1 + alive.length + wanted.length + ms.length + 30) (fun k' hk' => by rw [show wrap64 (0 + 1) = 1 from by unfold wrap64; omega]; exact h1 k' hk') k (by omega)
theorem ViewNext : carillonlaw12_ViewNext.Pure := by
  intro x0 x1 x2 _ hn0 _ hn1 _ hn2
  have h0 := hn0 _ (List.mem_cons_self ..)
  have h1 := hn1 _ (List.mem_cons_self ..)
  have h2 := hn2 _ (List.mem_cons_self ..)
  exact ⟨_, next_all _ _ _ _ (by omega) (by omega) (by omega) (8 * (x1.length + x2.length + 5) + x1.length + 2 * x0.f1.length + 101) (by omega)⟩
end Go.Proofs.Ytbcpjegakjcmgaa.P
