/- The plain law of chapter 10: what the acceptor's functions answer, told by one set of words for the program and the document. -/
import Derived.Test.YtocgbfcjmgpleaaPx
namespace Go.Proofs.Ytocgbfcjmgpleaa.P
set_option linter.unusedSimpArgs false

/-- A ballot is less than another one. -/
def LessP (a b c d : Int) : Prop := a < c ∨ a = c ∧ b < d
instance (a b c d : Int) : Decidable (LessP a b c d) := by unfold LessP; infer_instance
/-- A ballot is right. -/
def RightP (a b : Int) : Prop := 1 ≤ a ∧ a ≤ 9007199254740991 ∧ 0 ≤ b ∧ b < 7
instance (a b : Int) : Decidable (RightP a b) := by unfold RightP; infer_instance
/-- An acceptor is right. -/
def AccP (a b c d : Int) (s : ByteArray) : Prop := (RightP a b ∨ a = 0 ∧ b = 0) ∧ ¬ LessP a b c d ∧ (s.size : Int) ≤ 100000 ∧ (c = 0 ∧ d = 0 → s.toList = []) ∧ (c = 0 ∧ d = 0 ∨ RightP c d)
instance (a b c d : Int) (s : ByteArray) : Decidable (AccP a b c d s) := by unfold AccP; infer_instance

theorem less_is (a b c d : Int) : acceptor_Less.f a b c d = some (decide (LessP a b c d)) := by
  unfold acceptor_Less.f acceptor_pair.f LessP
  simp only [Option.bind_some]
  by_cases h1 : a = c
  · subst h1
    by_cases h2 : b = d
    · subst h2
      simp
    · simp [h2]
  · by_cases h3 : a < c
    · simp [h1, h3]
    · simp [h1, h3]
theorem right_is (a b : Int) : acceptor_Right.f a b = some (decide (RightP a b)) := by
  unfold acceptor_Right.f RightP
  by_cases h1 : 1 ≤ a <;> by_cases h2 : a ≤ 9007199254740991 <;> by_cases h3 : 0 ≤ b <;> simp [h1, h2, h3]
theorem none_is (a b : Int) : acceptor_none.f a b = some (decide (a = 0 ∧ b = 0)) := by
  unfold acceptor_none.f acceptor_pair.f
  by_cases h1 : a = 0 <;> by_cases h2 : b = 0 <;> simp [h1, h2]
theorem toList_nil (s : ByteArray) : (s.toList == ([] : List UInt8)) = decide (s.toList = []) := by
  cases h : s.toList <;> simp
theorem acc_is (a b c d : Int) (s : ByteArray) : acceptor_right.f a b c d s = some (decide (AccP a b c d s)) := by
  unfold acceptor_right.f AccP
  simp only [right_is, less_is, none_is, Option.bind_some, toList_nil]
  by_cases h4 : c = 0 ∧ d = 0
  · obtain ⟨rfl, rfl⟩ := h4
    by_cases h1 : RightP a b
    · by_cases h2 : LessP a b 0 0
      · simp [h1, h2]
      · by_cases h3 : (s.size : Int) ≤ 100000
        · have h3' : ¬ (s.size : Int) > 100000 := by omega
          simp [h1, h2, h3, h3']
        · have h3' : (s.size : Int) > 100000 := by omega
          simp [h1, h2, h3, h3']
    · by_cases h0 : a = 0 ∧ b = 0
      · obtain ⟨rfl, rfl⟩ := h0
        by_cases h2 : LessP 0 0 0 0
        · simp [h1, h2]
        · by_cases h3 : (s.size : Int) ≤ 100000
          · have h3' : ¬ (s.size : Int) > 100000 := by omega
            simp [h1, h2, h3, h3']
          · have h3' : (s.size : Int) > 100000 := by omega
            simp [h1, h2, h3, h3']
      · simp [h1, h0]
  · by_cases h1 : RightP a b
    · by_cases h2 : LessP a b c d
      · simp [h1, h2]
      · by_cases h3 : (s.size : Int) ≤ 100000
        · have h3' : ¬ (s.size : Int) > 100000 := by omega
          simp [h1, h2, h3, h3', h4]
        · have h3' : (s.size : Int) > 100000 := by omega
          simp [h1, h2, h3, h3']
    · by_cases h0 : a = 0 ∧ b = 0
      · obtain ⟨rfl, rfl⟩ := h0
        by_cases h2 : LessP 0 0 c d
        · simp [h1, h2]
        · by_cases h3 : (s.size : Int) ≤ 100000
          · have h3' : ¬ (s.size : Int) > 100000 := by omega
            simp [h1, h2, h3, h3', h4]
          · have h3' : (s.size : Int) > 100000 := by omega
            simp [h1, h2, h3, h3']
      · simp [h1, h0]

theorem rless_is (a b c d : Int) : carillonref10_Less.f a b c d = some (decide (LessP a b c d)) := by
  unfold carillonref10_Less.f LessP
  by_cases h3 : a < c
  · simp [h3]
  · by_cases h1 : a = c
    · simp [h1]
    · simp [h1, h3]
theorem rright_is (a b : Int) : carillonref10_Right.f a b = some (decide (RightP a b)) := by
  unfold carillonref10_Right.f RightP
  by_cases h1 : 1 ≤ a <;> by_cases h2 : a ≤ 9007199254740991 <;> by_cases h3 : 0 ≤ b <;> simp [h1, h2, h3]
theorem may_is (a b : Int) : carillonref10_may.f a b = some (decide (RightP a b ∨ a = 0 ∧ b = 0)) := by
  unfold carillonref10_may.f
  simp only [rright_is, Option.bind_some]
  by_cases h : RightP a b
  · simp [h]
  · by_cases h1 : a = 0
    · subst h1
      by_cases h2 : b = 0
      · subst h2
        simp [h]
      · simp [h, h2]
    · simp [h, h1]
theorem racc_is (a b c d : Int) (s : ByteArray) : carillonref10_RightAcceptor.f a b c d s = some (decide (AccP a b c d s)) := by
  unfold carillonref10_RightAcceptor.f AccP
  simp only [may_is, rless_is, Option.bind_some, toList_nil]
  by_cases h0 : RightP a b ∨ a = 0 ∧ b = 0
  · by_cases h2 : LessP a b c d
    · by_cases h3 : RightP c d ∨ c = 0 ∧ d = 0 <;> simp [h0, h2, h3]
    · by_cases h3 : (s.size : Int) ≤ 100000
      · by_cases h4 : c = 0 ∧ d = 0
        · obtain ⟨rfl, rfl⟩ := h4
          simp [h0, h2, h3]
        · have h4' : (!(c == 0) || (!(d == 0))) = true := by
            by_cases hc : c = 0
            · have : ¬ d = 0 := fun hd => h4 ⟨hc, hd⟩
              simp [this]
            · simp [hc]
          by_cases h5 : RightP c d <;> simp [h0, h2, h3, h4, h4', h5]
      · by_cases h4 : RightP c d ∨ c = 0 ∧ d = 0 <;> simp [h0, h2, h3, h4]
  · simp [h0]

/-- What Prepare answers. -/
def prepT (a b c d : Int) (s : ByteArray) (e f : Int) : Int × Int × Int × Int × ByteArray × Bool := if AccP a b c d s ∧ RightP e f ∧ ¬ LessP e f a b then (e, f, c, d, s, true) else (a, b, c, d, s, false)
/-- What Take answers. -/
def takeT (a b c d : Int) (s : ByteArray) (e f : Int) (v : ByteArray) : Int × Int × Int × Int × ByteArray × Bool := if AccP a b c d s ∧ RightP e f ∧ ¬ LessP e f a b ∧ (v.size : Int) ≤ 100000 ∧ (c = e ∧ d = f → s.toList = v.toList) then (e, f, e, f, v, true) else (a, b, c, d, s, false)
theorem prep_is (a b c d : Int) (s : ByteArray) (e f : Int) : acceptor_Prepare.f a b c d s e f = some (prepT a b c d s e f) := by
  unfold acceptor_Prepare.f prepT
  simp only [acc_is, right_is, less_is, Option.bind_some]
  by_cases h1 : AccP a b c d s <;> by_cases h2 : RightP e f <;> by_cases h3 : LessP e f a b <;> simp [h1, h2, h3]
theorem rprep_is (a b c d : Int) (s : ByteArray) (e f : Int) : carillonref10_Prepare.f a b c d s e f = some (prepT a b c d s e f) := by
  unfold carillonref10_Prepare.f prepT
  simp only [racc_is, rright_is, rless_is, Option.bind_some]
  by_cases h1 : AccP a b c d s <;> by_cases h2 : RightP e f <;> by_cases h3 : LessP e f a b <;> simp [h1, h2, h3]
theorem take_is (a b c d : Int) (s : ByteArray) (e f : Int) (v : ByteArray) : acceptor_Take.f a b c d s e f v = some (takeT a b c d s e f v) := by
  unfold acceptor_Take.f takeT acceptor_pair.f
  simp only [prep_is, Option.bind_some]
  unfold prepT
  by_cases h : AccP a b c d s ∧ RightP e f ∧ ¬ LessP e f a b
  · obtain ⟨h1, h2, h3⟩ := h
    by_cases h4 : (v.size : Int) ≤ 100000
    · have h4' : ¬ (v.size : Int) > 100000 := by omega
      by_cases h5 : c = e ∧ d = f
      · obtain ⟨rfl, rfl⟩ := h5
        by_cases h6 : s.toList = v.toList
        · simp [h1, h2, h3, h4, h4', h6]
        · simp [h1, h2, h3, h4, h4', h6]
      · have h5' : ¬ ((c == e && (d == f)) = true) := by simpa using h5
        simp only [h1, h2, h3, h4, h4', h5, h5']
        simp
    · have h4' : (v.size : Int) > 100000 := by omega
      simp [h1, h2, h3, h4, h4']
  · have : ¬ (AccP a b c d s ∧ RightP e f ∧ ¬ LessP e f a b ∧ (v.size : Int) ≤ 100000 ∧ (c = e ∧ d = f → s.toList = v.toList)) := fun hh => h ⟨hh.1, hh.2.1, hh.2.2.1⟩
    simp only [h, this, if_false]
    simp
theorem rtake_is (a b c d : Int) (s : ByteArray) (e f : Int) (v : ByteArray) : carillonref10_Take.f a b c d s e f v = some (takeT a b c d s e f v) := by
  unfold carillonref10_Take.f takeT
  simp only [racc_is, rright_is, rless_is, Option.bind_some]
  by_cases h : AccP a b c d s ∧ RightP e f ∧ ¬ LessP e f a b
  · obtain ⟨h1, h2, h3⟩ := h
    by_cases h4 : (v.size : Int) ≤ 100000
    · have h4' : ¬ (v.size : Int) > 100000 := by omega
      by_cases h5 : c = e ∧ d = f
      · obtain ⟨rfl, rfl⟩ := h5
        by_cases h6 : s.toList = v.toList
        · simp [h1, h2, h3, h4, h4', h6]
        · have h6' : ¬ v.toList = s.toList := fun hh => h6 hh.symm
          simp [h1, h2, h3, h4, h4', h6, h6']
      · have h5' : ¬ ((e == c && (f == d)) = true) := by
          intro hh
          simp at hh
          exact h5 ⟨hh.1.symm, hh.2.symm⟩
        simp only [h1, h2, h3, h4, h4', h5, h5']
        simp
    · have h4' : (v.size : Int) > 100000 := by omega
      simp [h1, h2, h3, h4, h4']
  · have : ¬ (AccP a b c d s ∧ RightP e f ∧ ¬ LessP e f a b ∧ (v.size : Int) ≤ 100000 ∧ (c = e ∧ d = f → s.toList = v.toList)) := fun hh => h ⟨hh.1, hh.2.1, hh.2.2.1⟩
    simp only [this, if_false]
    by_cases h1 : AccP a b c d s <;> by_cases h2 : RightP e f <;> by_cases h3 : LessP e f a b <;> simp [h1, h2, h3]
    exact absurd ⟨h1, h2, h3⟩ h
end Go.Proofs.Ytocgbfcjmgpleaa.P
