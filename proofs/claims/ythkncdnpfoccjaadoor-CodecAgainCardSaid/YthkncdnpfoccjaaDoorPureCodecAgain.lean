import Derived.Test.YthkncdnpfoccjaaDoorKinds
import Derived.Test.YthkncdnpfoccjaaDoorPx9
import Derived.Test.YthkncdnpfoccjaaDoorPlainW
import Derived.Test.YthkncdnpfoccjaaDoorPlainF
namespace Go.Proofs.YthkncdnpfoccjaaDoor.P
open Go.RowKit Go.Proofs.YthkncdnpfoccjaaDoorW.PrintWords
set_option linter.unusedVariables false
set_option linter.unusedSimpArgs false
set_option maxRecDepth 100000
def carillonlaw01_CodecAgain.Pure : Prop := ∀ (x0 : ByteArray) (x1 : ByteArray), x0.size ≤ 140737488351232 → x1.size ≤ 140737488351232 → ∃ k, carillonlaw01_CodecAgain.f k x0 x1 = some true
theorem CodecAgain : carillonlaw01_CodecAgain.Pure := by
  intro a0 a1 h0 h1
  refine ⟨6008, ?_⟩
  unfold carillonlaw01_CodecAgain.f
  rw [show carillonlaw01_examples.f = some true from rfl, decode_is a0 a1 h0 (by omega) 6008 (by omega)]
  simp only [Option.bind_some]
  by_cases h : (decodeS a0.data.toList a1).2 = 0
  · obtain ⟨l, hd⟩ : ∃ l, decodeS a0.data.toList a1 = (l, 0) := ⟨_, Prod.ext rfl h⟩
    rw [hd]
    dsimp only
    rw [if_pos rfl]
    obtain ⟨e, g1, g2, g3, g4⟩ := decode_back (by omega) hd
    have hd2 := dec_shape l e [] a1 g3 g1 g4 (by rw [g2, son_data, List.append_nil])
    rw [if_pos rfl] at hd2
    rw [encode_is l g3 6008 (by omega), encS_of g1 g4, shape_f l (by omega), (enc_shOk l e g1).1, if_pos rfl]
    simp only [Option.bind_some]
    rw [decode_is ⟨(l.map shB).toArray⟩ a1 (by rw [← data_len]; simp; omega) (by omega) 6008 (by omega)]
    simp only [Option.bind_some]
    rw [hd2, same_f l (by omega) 6008 (by omega), ← g2]
    simp
  · rw [if_neg h, decodeS_bad _ _ h]
    rfl
end Go.Proofs.YthkncdnpfoccjaaDoor.P
