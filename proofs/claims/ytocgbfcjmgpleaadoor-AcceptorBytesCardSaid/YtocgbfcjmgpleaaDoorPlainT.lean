/- An acceptor written and read, by the document. -/
import Derived.Test.YtocgbfcjmgpleaaDoorPx10
import Derived.Test.YtocgbfcjmgpleaaDoorPx16
import Derived.Test.YtocgbfcjmgpleaaDoorPlainS
import Derived.Test.YtocgbfcjmgpleaaDoorPlainQ
import Derived.Test.YtocgbfcjmgpleaaDoorPlainF
import Derived.Test.YtocgbfcjmgpleaaDoorPlainC
namespace Go.Proofs.YtocgbfcjmgpleaaDoor.P
open Go.RowKit Go.Proofs.YtocgbfcjmgpleaaDoorW.PrintWords Go.Proofs.YtocgbfcjmgpleaaDoorW.PrintLast Go.Proofs.YtocgbfcjmgpleaaDoorW.PrintMore
set_option linter.unusedSimpArgs false
set_option linter.unusedVariables false
set_option maxRecDepth 100000
theorem raenc_is (a b c d : Int) (s : ByteArray) (k : Nat) (hk : 1012 ≤ k) : carillonref10_Encode.f k a b c d s = some (if AccP a b c d s then ((encS (itemsA a b c d s)).1, true) else (⟨#[]⟩, false)) := by
  unfold carillonref10_Encode.f
  rw [racc_is]
  simp only [Option.bind_some]
  by_cases h : AccP a b c d s
  · rw [if_pos (by simpa using h), if_pos h]
    have e := rencode_is (itemsA a b c d s) (itemsA_wf h) k hk
    unfold itemsA at e
    rw [e]
    rfl
  · rw [if_neg (by simpa using h), if_neg h]
theorem radec_is (s : ByteArray) (hs : s.size ≤ 140737488351232) (k : Nat) (hk : 1048577 ≤ k) : carillonref10_Decode.f k s = some (adecS s) := by
  unfold carillonref10_Decode.f
  rw [rdecode_is _ s (by decide) hs k hk]
  simp only [Option.bind_some]
  rcases dec5 s (by omega) with ⟨v0, v1, v2, v3, t, e, hd, h1, h2, w0, w1, w2, w3⟩ | ⟨l, e, he, hd⟩
  · rw [hd, adecS_ok hd]
    dsimp only
    rw [if_pos rfl, if_pos (by simp)]
    have r0 : rd_T51 [(⟨3, v0, ⟨#[]⟩⟩ : S51), ⟨1, v1, ⟨#[]⟩⟩, ⟨3, v2, ⟨#[]⟩⟩, ⟨1, v3, ⟨#[]⟩⟩, ⟨4, 0, t⟩] 0 = ⟨3, v0, ⟨#[]⟩⟩ := rfl
    have r1 : rd_T51 [(⟨3, v0, ⟨#[]⟩⟩ : S51), ⟨1, v1, ⟨#[]⟩⟩, ⟨3, v2, ⟨#[]⟩⟩, ⟨1, v3, ⟨#[]⟩⟩, ⟨4, 0, t⟩] 1 = ⟨1, v1, ⟨#[]⟩⟩ := rfl
    have r2 : rd_T51 [(⟨3, v0, ⟨#[]⟩⟩ : S51), ⟨1, v1, ⟨#[]⟩⟩, ⟨3, v2, ⟨#[]⟩⟩, ⟨1, v3, ⟨#[]⟩⟩, ⟨4, 0, t⟩] 2 = ⟨3, v2, ⟨#[]⟩⟩ := rfl
    have r3 : rd_T51 [(⟨3, v0, ⟨#[]⟩⟩ : S51), ⟨1, v1, ⟨#[]⟩⟩, ⟨3, v2, ⟨#[]⟩⟩, ⟨1, v3, ⟨#[]⟩⟩, ⟨4, 0, t⟩] 3 = ⟨1, v3, ⟨#[]⟩⟩ := rfl
    have r4 : rd_T51 [(⟨3, v0, ⟨#[]⟩⟩ : S51), ⟨1, v1, ⟨#[]⟩⟩, ⟨3, v2, ⟨#[]⟩⟩, ⟨1, v3, ⟨#[]⟩⟩, ⟨4, 0, t⟩] 4 = ⟨4, 0, t⟩ := rfl
    rw [r0, r1, r2, r3, r4]
    dsimp only
    by_cases g0 : v0 ≤ 9007199254740991
    · rw [if_neg (by omega), if_pos (by simp)]
      by_cases g2 : v2 ≤ 9007199254740991
      · rw [if_neg (by omega), if_pos (by simp), if_pos (by simp), if_pos (by simp), wrap64_id (by omega) (by omega), wrap64_id (by omega) (by omega), wrap64_id (by omega) (by omega), wrap64_id (by omega) (by omega), racc_is]
        simp only [Option.bind_some]
        by_cases ha : AccP v0 v1 v2 v3 t
        · rw [if_pos (by simpa using ha), if_pos ⟨g0, g2, ha⟩]
        · rw [if_neg (by simpa using ha), if_neg (fun x => ha x.2.2)]
      · rw [if_pos (by omega), if_neg (fun x => g2 x.2.1)]
    · rw [if_pos (by omega), if_neg (fun x => g0 x.1)]
  · rw [hd, adecS_bad he hd]
    dsimp only
    rw [if_neg he]
end Go.Proofs.YtocgbfcjmgpleaaDoor.P
