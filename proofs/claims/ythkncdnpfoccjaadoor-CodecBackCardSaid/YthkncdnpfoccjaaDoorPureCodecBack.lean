import Derived.Test.YthkncdnpfoccjaaDoorKinds
import Derived.Test.YthkncdnpfoccjaaDoorPx9
import Derived.Test.YthkncdnpfoccjaaDoorPlainW
import Derived.Test.YthkncdnpfoccjaaDoorPlainF
namespace Go.Proofs.YthkncdnpfoccjaaDoor.P
open Go.RowKit Go.Proofs.YthkncdnpfoccjaaDoorW.PrintWords
set_option linter.unusedVariables false
set_option linter.unusedSimpArgs false
set_option maxRecDepth 100000
def carillonlaw01_CodecBack.Pure : Prop := ∀ (x0 : List S32), (fun l : List S32 => ∀ a ∈ l, wf32 a) x0 → (∀ n ∈ (fun l : List S32 => l.length * 32 :: l.flatMap lens32) x0, n ≤ 140737488351232) → ∃ k, carillonlaw01_CodecBack.f k x0 = some true
theorem CodecBack : carillonlaw01_CodecBack.Pure := by
  intro l hw hn
  obtain ⟨hW, hL⟩ := wfI_of l hw hn
  refine ⟨6008, ?_⟩
  unfold carillonlaw01_CodecBack.f
  rw [show carillonlaw01_examples.f = some true from rfl, encode_is l hW 6008 (by omega), shape_f l (by omega)]
  simp only [Option.bind_some]
  rcases encS_cases l with ⟨m, h1, h2, h3⟩ | ⟨e, h1, h2⟩
  · have hz := (enc_shOk l m h1).2
    have hd := dec_shape l m [] (strOfNums m) hW h1 h2 (by rw [son_data, List.append_nil])
    rw [if_pos rfl] at hd
    rw [h3, (enc_shOk l m h1).1, if_pos rfl]
    dsimp only
    rw [if_pos rfl, decode_is ⟨(l.map shB).toArray⟩ (strOfNums m) (by rw [← data_len]; simp; omega) (by rw [son_size]; omega) 6008 (by omega)]
    simp only [Option.bind_some]
    rw [hd, same_f l (by omega) 6008 (by omega)]
    simp
  · rw [h2]
    dsimp only
    rw [if_neg (by omega)]
    simp [toList_eq]
end Go.Proofs.YthkncdnpfoccjaaDoor.P
