/- The law FlushOwns, over plain functions. -/
import Derived.Test.YtokebimfflobbaaDoorKinds
import Derived.Test.YtokebimfflobbaaDoorPlainFF
import Derived.Test.YtokebimfflobbaaDoorPlainG
import Derived.Test.YtokebimfflobbaaDoorPx12
namespace Go.Proofs.YtokebimfflobbaaDoor.P
open Go.RowKit Go.Proofs.YtokebimfflobbaaDoorW.PrintWords
set_option linter.unusedVariables false
set_option linter.unusedSimpArgs false
set_option maxRecDepth 100000
def carillonlaw19_FlushOwns.Pure : Prop := ∀ (x0 : S35) (x1 : List (List ByteArray)), wf35 x0 → (∀ n ∈ lens35 x0, n ≤ 140737488351232) → (fun l : List (List ByteArray) => ∀ a ∈ l, (fun l : List ByteArray => ∀ a ∈ l, (fun s : ByteArray => s.size ≤ maxLen) a) a) x1 → (∀ n ∈ (fun l : List (List ByteArray) => l.length * 24 :: l.flatMap (fun l : List ByteArray => l.length * 16 :: l.flatMap (fun s : ByteArray => [s.size]))) x1, n ≤ 140737488351232) → ∃ k, carillonlaw19_FlushOwns.f k (x0.f0) (x0.f1) x1 = some true
theorem owns_all (M : Nat) (hM : M ≤ 8796093022207) (num : Int) (ms : List S47) (hms : ms.length ≤ 4611686018427387904) (l : List (List ByteArray)) (hy : ∀ x ∈ l, x.length ≤ M) (hs : ∀ x ∈ l, ∀ s ∈ x, s.size ≤ 140737488351232) (hl : l.length ≤ 4611686018427387904) (k : Nat) (hk : l.length + 2 * M + ms.length + 9000 < k) :
    carillonlaw19_FlushOwns.f k num ms l = some true := by
  unfold carillonlaw19_FlushOwns.f flush_Own.f
  rw [show carillonlaw19_examples.f = some true from rfl, longest_is M hM l hy hl k (by omega)]
  have hx : (lngS l).1.length ≤ M ∧ ∀ s ∈ (lngS l).1, s.size ≤ 140737488351232 := by
    cases l with
    | nil => exact ⟨Nat.zero_le _, fun s h => by cases h⟩
    | cons c r =>
      cases h : lng c r with
      | none =>
        rw [show lngS (c :: r) = ([], 11) by simp [lngS, h]]
        exact ⟨Nat.zero_le _, fun s hs => absurd hs (by simp)⟩
      | some x =>
        rw [show lngS (c :: r) = (x, 0) by simp [lngS, h]]
        have hm : x ∈ c :: r := by
          rcases lng_mem r c x h with h | h
          · rw [h]; exact List.mem_cons_self ..
          · exact List.mem_cons_of_mem _ h
        exact ⟨hy x hm, hs x hm⟩
  generalize lngS l = p at hx
  obtain ⟨x, e⟩ := p
  obtain ⟨hx1, hx2⟩ := hx
  dsimp only at hx1 hx2
  simp only [Option.bind_some]
  by_cases he : e = 0
  · subst he
    rw [if_pos rfl, fenc_is num ms x hms (by omega) hx2 k (by omega)]
    simp only [Option.bind_some, if_true]
    obtain ⟨s, g, hf⟩ : ∃ s g, fencS num ms x = (s, g) := ⟨_, _, rfl⟩
    rw [hf]
    dsimp only
    by_cases hg : g = 0
    · subst hg
      rw [if_pos rfl, fdec_enc hf hx2 k (by omega)]
      simp only [Option.bind_some]
      rw [views_is num ms hms k (by omega), texts_is x (by omega) k (by omega)]
      simp
    · have hb := fencS_bad (num := num) (ms := ms) hx2 (by rw [hf]; exact hg)
      rw [hf] at hb
      dsimp only at hb
      rw [if_neg hg, hb]
      simp [toList_eq]
  · rw [if_neg he]
    simp only [Option.bind_some]
    rw [if_neg he]
    simp [toList_eq]
theorem FlushOwns : carillonlaw19_FlushOwns.Pure := by
  intro x0 l hw0 hn0 _ hnl
  obtain ⟨num, ms⟩ := x0
  have hms : ms.length ≤ 4611686018427387904 := by
    have := hn0 (ms.length * 16) (by simp [lens35])
    omega
  have hl := hnl _ (List.mem_cons_self ..)
  have hy : ∀ x ∈ l, x.length ≤ 8796093022207 := by
    intro x hx
    have := hnl (x.length * 16) (List.mem_cons_of_mem _ (List.mem_flatMap.2 ⟨x, hx, List.mem_cons_self ..⟩))
    omega
  have hs : ∀ x ∈ l, ∀ s ∈ x, s.size ≤ 140737488351232 := by
    intro x hx s hs
    exact hnl s.size (List.mem_cons_of_mem _ (List.mem_flatMap.2 ⟨x, hx, List.mem_cons_of_mem _ (List.mem_flatMap.2 ⟨s, hs, by simp⟩)⟩))
  exact ⟨l.length + 2 * 8796093022207 + ms.length + 9001, owns_all 8796093022207 (Nat.le_refl _) num ms hms l hy hs (by omega) _ (by omega)⟩
end Go.Proofs.YtokebimfflobbaaDoor.P
