/- The sum of two texts is that of the second one, gone on from the first one's: the plain statement. -/
import Derived.Test.YtkcooehlahifkaaDoorKinds
import Derived.Test.YtkcooehlahifkaaDoorPx3
import Derived.Test.YtkcooehlahifkaaDoorPlainA
namespace Go.Proofs.YtkcooehlahifkaaDoor.P
open Go.RowKit Go.Proofs.YtkcooehlahifkaaDoorW.PrintWords
set_option linter.unusedVariables false
def carillonlaw02_CrcJoins.Pure : Prop := ∀ (x0 : ByteArray) (x1 : ByteArray), x0.size ≤ 140737488351232 → x1.size ≤ 140737488351232 → carillonlaw02_CrcJoins.f x0 x1 = some true
theorem CrcJoins : carillonlaw02_CrcJoins.Pure := by
  intro x0 x1 h0 h1
  have hsz : (x0 ++ x1).size = x0.size + x1.size := ByteArray.size_append
  have hml : crcFoldN 4294967295 x0.data.toList < 4294967296 := crcFoldN_lt _ (by decide)
  have e0 := more_zero x0 (by omega)
  have e1 := more_zero (x0 ++ x1) (by omega)
  have e2 := more_on _ hml x1 (by omega)
  have e3 := more_on _ hml ⟨#[]⟩ (Nat.zero_le _)
  have hj : crcFoldN 4294967295 (x0 ++ x1).data.toList = crcFoldN (crcFoldN 4294967295 x0.data.toList) x1.data.toList := by rw [data_append, fold_append]
  rw [hj] at e1
  have e4 : ∀ m, crcFoldN m (⟨#[]⟩ : ByteArray).data.toList = m := fun _ => rfl
  rw [e4] at e3
  have hle : x0.size + x1.size ≤ 9223372036854775807 := by omega
  generalize crcFoldN (crcFoldN 4294967295 x0.data.toList) x1.data.toList = q at *
  generalize crcFoldN 4294967295 x0.data.toList = m at *
  generalize ((4294967295 ^^^ m : Nat) : Int) = M at *
  generalize ((4294967295 ^^^ q : Nat) : Int) = Q at *
  unfold carillonlaw02_CrcJoins.f carillonlaw02_examples.f crc_Sum.f
  rw [Option.bind_some, if_pos rfl, e0, Option.bind_some, Option.bind_some, e2, Option.bind_some, if_pos hle, e1, Option.bind_some, Option.bind_some, if_pos rfl, e3, Option.bind_some, beq_self_eq_true]
end Go.Proofs.YtkcooehlahifkaaDoor.P
