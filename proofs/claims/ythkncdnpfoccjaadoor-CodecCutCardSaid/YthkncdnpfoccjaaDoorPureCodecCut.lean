import Derived.Test.YthkncdnpfoccjaaDoorKinds
import Derived.Test.YthkncdnpfoccjaaDoorPx10
import Derived.Test.YthkncdnpfoccjaaDoorPlainW
import Derived.Test.YthkncdnpfoccjaaDoorPlainF
namespace Go.Proofs.YthkncdnpfoccjaaDoor.P
open Go.RowKit Go.Proofs.YthkncdnpfoccjaaDoorW.PrintWords
set_option linter.unusedVariables false
set_option linter.unusedSimpArgs false
set_option maxRecDepth 100000
def carillonlaw01_CodecCut.Pure : Prop := ∀ (x0 : List S32) (x1 : Int) (x2 : ByteArray), (fun l : List S32 => ∀ a ∈ l, wf32 a) x0 → (∀ n ∈ (fun l : List S32 => l.length * 32 :: l.flatMap lens32) x0, n ≤ 140737488351232) → (Lit.int .i64 x1).wf = true → x2.size ≤ 140737488351232 → ∃ k, carillonlaw01_CodecCut.f k x0 x1 x2 = some true
theorem cut_body (l : List S32) (m : List Int) (a2 : ByteArray) (hW : ∀ x ∈ l, WfI x) (h1 : encAll l = .ok m) (hl : l.length ≤ 1000) (h2 : a2.size ≤ 140737488351232) (j : Int) (j0 : 0 ≤ j) (j1 : j < ((strOfNums m).size : Int)) :
    (if 0 ≤ j then (if j ≤ ((strOfNums m).size : Int) then ((codec_Decode.f 6008 (⟨(l.map shB).toArray⟩ : ByteArray) ((strOfNums m).extract 0 j.toNat)).bind fun bt308 => (if (strOfNums m).size + a2.size ≤ 9223372036854775807 then ((codec_Decode.f 6008 (⟨(l.map shB).toArray⟩ : ByteArray) ((strOfNums m) ++ a2)).bind fun bt312 => (if true = true then (if bt308.2 = 2 then (some ((bt312.2 == 10) == (a2.toList != ([] : List UInt8)))) else (some false)) else (some false))) else (none))) else (none)) else (none)) = some true := by
  have hz := (enc_shOk l m h1).2
  have hs := son_size m
  have hA : (⟨(l.map shB).toArray⟩ : ByteArray).size ≤ 140737488351232 := by rw [← data_len]; simp; omega
  rw [if_pos j0, if_pos (by omega), decode_is _ _ hA (by rw [ByteArray.size_extract]; omega) 6008 (by omega)]
  simp only [Option.bind_some]
  rw [if_pos (by omega), decode_is _ _ hA (by rw [ByteArray.size_append]; omega) 6008 (by omega)]
  simp only [Option.bind_some]
  rw [cut_shape l m ((strOfNums m).extract 0 j.toNat) j.toNat hW h1 hl (by omega) (by rw [ext_list, son_data]; simp)]
  rw [dec_shape l m a2.data.toList ((strOfNums m) ++ a2) hW h1 hl (by rw [ByteArray.data_append, Array.toList_append, son_data])]
  rw [toList_eq]
  simp only [if_true]
  cases a2.data.toList <;> rfl
theorem CodecCut : carillonlaw01_CodecCut.Pure := by
  intro l a1 a2 hw hn ha h2
  obtain ⟨hW, hL⟩ := wfI_of l hw hn
  simp only [Lit.wf, IntKind.min, IntKind.max, IntKind.signed, IntKind.bits, Bool.and_eq_true, decide_eq_true_eq, if_true, Bool.false_eq_true, if_false] at ha
  refine ⟨6008, ?_⟩
  unfold carillonlaw01_CodecCut.f
  rw [show carillonlaw01_examples.f = some true from rfl, encode_is l hW 6008 (by omega), shape_f l (by omega)]
  simp only [Option.bind_some]
  rcases encS_cases l with ⟨m, h1, hl, h3⟩ | ⟨e, h1, h3⟩
  · rw [h3, (enc_shOk l m h1).1, if_pos rfl]
    dsimp only
    rw [if_pos rfl]
    by_cases hz : ((strOfNums m).size : Int) = 0
    · rw [if_pos hz]
    rw [if_neg hz]
    by_cases hneg : a1 < 0
    · rw [if_pos hneg]
      have e1 : wrap64 (a1 + 1) = a1 + 1 := wrap64_id (by omega) (by omega)
      have e2 : wrap64 (-(a1 + 1)) = -(a1 + 1) := wrap64_id (by omega) (by omega)
      rw [e1, e2]
      exact cut_body l m a2 hW h1 hl h2 _ (Int.tmod_nonneg _ (by omega)) (Int.tmod_lt_of_pos _ (by omega))
    · rw [if_neg hneg]
      exact cut_body l m a2 hW h1 hl h2 _ (Int.tmod_nonneg _ (by omega)) (Int.tmod_lt_of_pos _ (by omega))
  · rw [h3]
    dsimp only
    rw [if_neg (by omega)]
end Go.Proofs.YthkncdnpfoccjaaDoor.P
