/- The document's record and its frame are the program's. -/
import Derived.Test.YtmjgifhgodgghaaDoorPx11
import Derived.Test.YtmjgifhgodgghaaDoorPlainE
import Derived.Test.YtmjgifhgodgghaaDoorPlainD
import Derived.Test.YtmjgifhgodgghaaDoorPlainR
namespace Go.Proofs.YtmjgifhgodgghaaDoor.P
open Go.RowKit Go.Proofs.YtmjgifhgodgghaaDoorW.PrintWords Go.Proofs.YtmjgifhgodgghaaDoorW.PrintLast Go.Proofs.YtmjgifhgodgghaaDoorW.PrintMore
set_option linter.unusedSimpArgs false
set_option linter.unusedVariables false
set_option maxRecDepth 100000
theorem rsright_is (a : Int) (p : ByteArray) (c : Int) (q v : ByteArray) : carillonref06_Right.f a p c q v = some (decide (RecP ⟨a, p, c, q, v⟩)) := by
  unfold carillonref06_Right.f
  by_cases g1 : a ≥ 0
  case neg => rw [if_neg g1, decide_eq_false (by intro h; unfold RecP at h; dsimp only at h; omega)]
  rw [if_pos g1]
  by_cases g2 : a ≤ 9007199254740991
  case neg => rw [if_neg g2, decide_eq_false (by intro h; unfold RecP at h; dsimp only at h; omega)]
  rw [if_pos g2]
  by_cases g5 : c ≥ 0
  case neg => rw [if_neg g5, decide_eq_false (by intro h; unfold RecP at h; dsimp only at h; omega)]
  rw [if_pos g5]
  by_cases g6 : c ≤ 9007199254740991
  case neg => rw [if_neg g6, decide_eq_false (by intro h; unfold RecP at h; dsimp only at h; omega)]
  rw [if_pos g6]
  by_cases g3 : (p.size : Int) ≤ 20
  case neg => rw [if_neg g3, decide_eq_false (by intro h; unfold RecP at h; dsimp only at h; omega)]
  rw [if_pos g3]
  by_cases g4 : (q.size : Int) ≤ 100
  case neg => rw [if_neg g4, decide_eq_false (by intro h; unfold RecP at h; dsimp only at h; omega)]
  rw [if_pos g4]
  congr 1
  refine decide_eq_decide.2 ?_
  unfold RecP
  dsimp only
  omega
theorem rsone_is (r : SR) (k : Nat) (hk : 4000100 ≤ k) : carillonref06_One.f k r.f0 r.f1 r.f2 r.f3 r.f4 = some (if RecP r then (frame (recB r), true) else (⟨#[]⟩, false)) := by
  unfold carillonref06_One.f
  rw [rsright_is]
  simp only [Option.bind_some]
  by_cases h : RecP r
  · have hr := h
    unfold RecP at hr
    rw [if_pos (by simpa using h), if_pos h, wrapU64 (by omega) (by omega), wrapU64 (by omega) (by omega)]
    rw [show carillonref01_Encode.f k [(⟨3, r.f0, ⟨#[]⟩⟩ : SI), ⟨4, 0, r.f1⟩, ⟨3, r.f2, ⟨#[]⟩⟩, ⟨4, 0, r.f3⟩, ⟨4, 0, r.f4⟩] = some (recB r, 0) from (rencode_is (rItems r) (rItems_wf h) k (by omega)).trans (by rw [rItems_encS h])]
    simp only [Option.bind_some]
    have := recB_le h
    rw [rframe_is _ _ hk, if_neg (by omega)]
    rfl
  · rw [if_neg (by simpa using h), if_neg h]
end Go.Proofs.YtmjgifhgodgghaaDoor.P
