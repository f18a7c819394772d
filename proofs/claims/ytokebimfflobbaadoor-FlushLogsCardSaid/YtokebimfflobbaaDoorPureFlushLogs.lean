/- The law FlushLogs, over plain functions. -/
import Derived.Test.YtokebimfflobbaaDoorKinds
import Derived.Test.YtokebimfflobbaaDoorPlainG
import Derived.Test.YtokebimfflobbaaDoorPx9
namespace Go.Proofs.YtokebimfflobbaaDoor.P
open Go.RowKit Go.Proofs.YtokebimfflobbaaDoorW.PrintWords
set_option linter.unusedVariables false
set_option linter.unusedSimpArgs false
set_option maxRecDepth 100000
def carillonlaw19_FlushLogs.Pure : Prop := ∀ (x0 : List (List ByteArray)) (x1 : List ByteArray) (x2 : List ByteArray), (fun l : List (List ByteArray) => ∀ a ∈ l, (fun l : List ByteArray => ∀ a ∈ l, (fun s : ByteArray => s.size ≤ maxLen) a) a) x0 → (∀ n ∈ (fun l : List (List ByteArray) => l.length * 24 :: l.flatMap (fun l : List ByteArray => l.length * 16 :: l.flatMap (fun s : ByteArray => [s.size]))) x0, n ≤ 140737488351232) → (fun l : List ByteArray => ∀ a ∈ l, (fun s : ByteArray => s.size ≤ maxLen) a) x1 → (∀ n ∈ (fun l : List ByteArray => l.length * 16 :: l.flatMap (fun s : ByteArray => [s.size])) x1, n ≤ 140737488351232) → (fun l : List ByteArray => ∀ a ∈ l, (fun s : ByteArray => s.size ≤ maxLen) a) x2 → (∀ n ∈ (fun l : List ByteArray => l.length * 16 :: l.flatMap (fun s : ByteArray => [s.size])) x2, n ≤ 140737488351232) → ∃ k, carillonlaw19_FlushLogs.f k x0 x1 x2 = some true
theorem FlushLogs : carillonlaw19_FlushLogs.Pure := by
  intro l a b _ hnl _ hna _ _
  have ha := hna _ (List.mem_cons_self ..)
  have hl := hnl _ (List.mem_cons_self ..)
  have hy : ∀ x ∈ l, x.length ≤ 8796093022207 := by
    intro x hx
    have := hnl (x.length * 16) (List.mem_cons_of_mem _ (List.mem_flatMap.2 ⟨x, hx, List.mem_cons_self ..⟩))
    omega
  have hs : ∀ x ∈ l, ∀ s ∈ x, s.size ≤ 140737488351232 := by
    intro x hx s hs
    exact hnl s.size (List.mem_cons_of_mem _ (List.mem_flatMap.2 ⟨x, hx, List.mem_cons_of_mem _ (List.mem_flatMap.2 ⟨s, hs, by simp⟩)⟩))
  exact ⟨(l.length + 1) * (l.length + 2) + 4 * 8796093022207 + a.length + 51, logs_all 8796093022207 (Nat.le_refl _) l a b hy hs (by omega) (by omega) _ (by omega)⟩
end Go.Proofs.YtokebimfflobbaaDoor.P
