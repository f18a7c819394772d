/- The law FlushTies, over plain functions. -/
import Derived.Test.YtokebimfflobbaaDoorKinds
import Derived.Test.YtokebimfflobbaaDoorPlainT
import Derived.Test.YtokebimfflobbaaDoorPx11
namespace Go.Proofs.YtokebimfflobbaaDoor.P
open Go.RowKit Go.Proofs.YtokebimfflobbaaDoorW.PrintWords
set_option linter.unusedVariables false
set_option linter.unusedSimpArgs false
set_option maxRecDepth 100000
def carillonlaw19_FlushTies.Pure : Prop := ∀ (x0 : List ByteArray) (x1 : List ByteArray), (fun l : List ByteArray => ∀ a ∈ l, (fun s : ByteArray => s.size ≤ maxLen) a) x0 → (∀ n ∈ (fun l : List ByteArray => l.length * 16 :: l.flatMap (fun s : ByteArray => [s.size])) x0, n ≤ 140737488351232) → (fun l : List ByteArray => ∀ a ∈ l, (fun s : ByteArray => s.size ≤ maxLen) a) x1 → (∀ n ∈ (fun l : List ByteArray => l.length * 16 :: l.flatMap (fun s : ByteArray => [s.size])) x1, n ≤ 140737488351232) → ∃ k, carillonlaw19_FlushTies.f k x0 x1 = some true
theorem FlushTies : carillonlaw19_FlushTies.Pure := by
  intro a b _ hna _ hnb
  have ha := hna _ (List.mem_cons_self ..)
  have hb := hnb _ (List.mem_cons_self ..)
  exact ⟨2 * a.length + b.length + 3, ties_all a b (by omega) (by omega) _ (by omega)⟩
end Go.Proofs.YtokebimfflobbaaDoor.P
