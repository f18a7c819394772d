/- What the acceptor's functions answer, in plain words. -/
import Derived.Test.YtocgbfcjmgpleaaDoorPx6
import Derived.Test.YtocgbfcjmgpleaaDoorPx7
namespace Go.Proofs.YtocgbfcjmgpleaaDoor.P
open Go.RowKit Go.Proofs.YtocgbfcjmgpleaaDoorW.PrintWords Go.Proofs.YtocgbfcjmgpleaaDoorW.PrintLast Go.Proofs.YtocgbfcjmgpleaaDoorW.PrintMore
set_option linter.unusedSimpArgs false
set_option linter.unusedVariables false
set_option maxRecDepth 100000
/-- A ballot is less than another one. -/
def LessP (a b c d : Int) : Prop := a < c ∨ a = c ∧ b < d
instance (a b c d : Int) : Decidable (LessP a b c d) := by unfold LessP; infer_instance
/-- A ballot is right. -/
def RightP (a b : Int) : Prop := 1 ≤ a ∧ a ≤ 9007199254740991 ∧ 0 ≤ b ∧ b < 7
instance (a b : Int) : Decidable (RightP a b) := by unfold RightP; infer_instance
/-- An acceptor is right. -/
def AccP (a b c d : Int) (s : ByteArray) : Prop := (RightP a b ∨ a = 0 ∧ b = 0) ∧ ¬ LessP a b c d ∧ (s.size : Int) ≤ 100000 ∧ (c = 0 ∧ d = 0 → s.toList = []) ∧ (c = 0 ∧ d = 0 ∨ RightP c d)
instance (a b c d : Int) (s : ByteArray) : Decidable (AccP a b c d s) := by unfold AccP; infer_instance

theorem less_is (a b c d : Int) : acceptor_Less.f a b c d = some (decide (LessP a b c d)) := by
  unfold acceptor_Less.f acceptor_pair.f LessP
  simp only [Option.bind_some]
  by_cases h1 : a = c
  · subst h1
    by_cases h2 : b = d
    · subst h2
      simp
    · simp [h2]
  · by_cases h3 : a < c
    · simp [h1, h3]
    · simp [h1, h3]
theorem aright_is (a b : Int) : acceptor_Right.f a b = some (decide (RightP a b)) := by
  unfold acceptor_Right.f RightP
  by_cases h1 : 1 ≤ a <;> by_cases h2 : a ≤ 9007199254740991 <;> by_cases h3 : 0 ≤ b <;> simp [h1, h2, h3]
theorem none_is (a b : Int) : acceptor_none.f a b = some (decide (a = 0 ∧ b = 0)) := by
  unfold acceptor_none.f acceptor_pair.f
  by_cases h1 : a = 0 <;> by_cases h2 : b = 0 <;> simp [h1, h2]
theorem toList_nil (s : ByteArray) : (s.toList == ([] : List UInt8)) = decide (s.toList = []) := by
  cases h : s.toList <;> simp
theorem acc_is (a b c d : Int) (s : ByteArray) : acceptor_right.f a b c d s = some (decide (AccP a b c d s)) := by
  unfold acceptor_right.f AccP
  simp only [aright_is, less_is, none_is, Option.bind_some, toList_nil]
  by_cases h4 : c = 0 ∧ d = 0
  · obtain ⟨rfl, rfl⟩ := h4
    by_cases h1 : RightP a b
    · by_cases h2 : LessP a b 0 0
      · simp [h1, h2]
      · by_cases h3 : (s.size : Int) ≤ 100000
        · have h3' : ¬ (s.size : Int) > 100000 := by omega
          simp [h1, h2, h3, h3']
        · have h3' : (s.size : Int) > 100000 := by omega
          simp [h1, h2, h3, h3']
    · by_cases h0 : a = 0 ∧ b = 0
      · obtain ⟨rfl, rfl⟩ := h0
        by_cases h2 : LessP 0 0 0 0
        · simp [h1, h2]
        · by_cases h3 : (s.size : Int) ≤ 100000
          · have h3' : ¬ (s.size : Int) > 100000 := by omega
            simp [h1, h2, h3, h3']
          · have h3' : (s.size : Int) > 100000 := by omega
            simp [h1, h2, h3, h3']
      · simp [h1, h0]
  · by_cases h1 : RightP a b
    · by_cases h2 : LessP a b c d
      · simp [h1, h2]
      · by_cases h3 : (s.size : Int) ≤ 100000
        · have h3' : ¬ (s.size : Int) > 100000 := by omega
          simp [h1, h2, h3, h3', h4]
        · have h3' : (s.size : Int) > 100000 := by omega
          simp [h1, h2, h3, h3']
    · by_cases h0 : a = 0 ∧ b = 0
      · obtain ⟨rfl, rfl⟩ := h0
        by_cases h2 : LessP 0 0 c d
        · simp [h1, h2]
        · by_cases h3 : (s.size : Int) ≤ 100000
          · have h3' : ¬ (s.size : Int) > 100000 := by omega
            simp [h1, h2, h3, h3', h4]
          · have h3' : (s.size : Int) > 100000 := by omega
            simp [h1, h2, h3, h3']
      · simp [h1, h0]

/-- What Prepare answers. -/
def prepT (a b c d : Int) (s : ByteArray) (e f : Int) : Int × Int × Int × Int × ByteArray × Bool := if AccP a b c d s ∧ RightP e f ∧ ¬ LessP e f a b then (e, f, c, d, s, true) else (a, b, c, d, s, false)
/-- What Take answers. -/
def takeT (a b c d : Int) (s : ByteArray) (e f : Int) (v : ByteArray) : Int × Int × Int × Int × ByteArray × Bool := if AccP a b c d s ∧ RightP e f ∧ ¬ LessP e f a b ∧ (v.size : Int) ≤ 100000 ∧ (c = e ∧ d = f → s.toList = v.toList) then (e, f, e, f, v, true) else (a, b, c, d, s, false)
theorem prep_is (a b c d : Int) (s : ByteArray) (e f : Int) : acceptor_Prepare.f a b c d s e f = some (prepT a b c d s e f) := by
  unfold acceptor_Prepare.f prepT
  simp only [acc_is, aright_is, less_is, Option.bind_some]
  by_cases h1 : AccP a b c d s <;> by_cases h2 : RightP e f <;> by_cases h3 : LessP e f a b <;> simp [h1, h2, h3]
theorem atake_is (a b c d : Int) (s : ByteArray) (e f : Int) (v : ByteArray) : acceptor_Take.f a b c d s e f v = some (takeT a b c d s e f v) := by
  unfold acceptor_Take.f takeT acceptor_pair.f
  simp only [prep_is, Option.bind_some]
  unfold prepT
  by_cases h : AccP a b c d s ∧ RightP e f ∧ ¬ LessP e f a b
  · obtain ⟨h1, h2, h3⟩ := h
    by_cases h4 : (v.size : Int) ≤ 100000
    · have h4' : ¬ (v.size : Int) > 100000 := by omega
      by_cases h5 : c = e ∧ d = f
      · obtain ⟨rfl, rfl⟩ := h5
        by_cases h6 : s.toList = v.toList
        · simp [h1, h2, h3, h4, h4', h6]
        · simp [h1, h2, h3, h4, h4', h6]
      · have h5' : ¬ ((c == e && (d == f)) = true) := by simpa using h5
        simp only [h1, h2, h3, h4, h4', h5, h5']
        simp
    · have h4' : (v.size : Int) > 100000 := by omega
      simp [h1, h2, h3, h4, h4']
  · have : ¬ (AccP a b c d s ∧ RightP e f ∧ ¬ LessP e f a b ∧ (v.size : Int) ≤ 100000 ∧ (c = e ∧ d = f → s.toList = v.toList)) := fun hh => h ⟨hh.1, hh.2.1, hh.2.2.1⟩
    simp only [h, this, if_false]
    simp
end Go.Proofs.YtocgbfcjmgpleaaDoor.P
