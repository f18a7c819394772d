/- The law CodecReads, at arguments of a bounded size, over plain functions. -/
import Derived.Test.YthkncdnpfoccjaaDoorKinds
import Derived.Test.YthkncdnpfoccjaaDoorPx7
import Derived.Test.YthkncdnpfoccjaaDoorPlainD
namespace Go.Proofs.YthkncdnpfoccjaaDoor.P
open Go.RowKit Go.Proofs.YthkncdnpfoccjaaDoorW.PrintWords
set_option linter.unusedVariables false
def carillonlaw01_CodecReads.PureUpto : Prop := ∀ (x0 : ByteArray) (x1 : ByteArray), x0.size ≤ 140737488351232 → x1.size ≤ 140737488351232 → (fun s : ByteArray => s.size + 1) x0 + (fun s : ByteArray => s.size + 1) x1 ≤ 1048576 → ∃ k, carillonlaw01_CodecReads.f k x0 x1 = some true
theorem CodecReads : carillonlaw01_CodecReads.PureUpto := by
  intro x0 x1 _ _ hb
  simp only at hb
  exact ⟨3000001, reads_all x0 x1 (by omega) (by omega)⟩
end Go.Proofs.YthkncdnpfoccjaaDoor.P
