/- What two logs have in common, told plainly. -/
import Derived.Test.YtokebimfflobbaaDoorPx2
namespace Go.Proofs.YtokebimfflobbaaDoor.P
open Go.RowKit Go.Proofs.YtokebimfflobbaaDoorW.PrintWords Go.Proofs.YtokebimfflobbaaDoorW.PrintLast Go.Proofs.YtokebimfflobbaaDoorW.PrintMore
set_option linter.unusedSimpArgs false
set_option linter.unusedVariables false
set_option maxRecDepth 100000
def cmn : List ByteArray → List ByteArray → Nat
  | x :: xs, y :: ys => if x.toList = y.toList then cmn xs ys + 1 else 0
  | [], _ => 0
  | _ :: _, [] => 0
theorem cmn_le : ∀ a b : List ByteArray, cmn a b ≤ a.length ∧ cmn a b ≤ b.length
  | [], b => by cases b <;> simp [cmn]
  | _ :: _, [] => by simp [cmn]
  | x :: xs, y :: ys => by
    have := cmn_le xs ys
    simp only [cmn, List.length_cons]
    split <;> omega
theorem cmn_comm : ∀ a b : List ByteArray, cmn a b = cmn b a
  | [], b => by cases b <;> simp [cmn]
  | _ :: _, [] => by simp [cmn]
  | x :: xs, y :: ys => by
    have := cmn_comm xs ys
    simp only [cmn]
    by_cases h : x.toList = y.toList
    · rw [if_pos h, if_pos h.symm, this]
    · rw [if_neg h, if_neg (fun e => h e.symm)]
theorem cmn_lt (d : ByteArray) : ∀ (a b : List ByteArray) (i : Nat), i < cmn a b → (a.getD i d).toList = (b.getD i d).toList
  | [], b, i => by cases b <;> simp [cmn]
  | _ :: _, [], i => by simp [cmn]
  | x :: xs, y :: ys, i => by
    intro h
    simp only [cmn] at h
    by_cases g : x.toList = y.toList
    · rw [if_pos g] at h
      cases i with
      | zero => exact g
      | succ i => exact cmn_lt d xs ys i (by omega)
    · rw [if_neg g] at h
      omega
theorem cmn_at (d : ByteArray) : ∀ (a b : List ByteArray), cmn a b < a.length → cmn a b < b.length → (a.getD (cmn a b) d).toList ≠ (b.getD (cmn a b) d).toList
  | [], b => by cases b <;> simp [cmn]
  | _ :: _, [] => by simp [cmn]
  | x :: xs, y :: ys => by
    intro h1 h2
    simp only [cmn] at h1 h2 ⊢
    by_cases g : x.toList = y.toList
    · rw [if_pos g] at h1 h2 ⊢
      rw [List.length_cons] at h1 h2
      exact cmn_at d xs ys (by omega) (by omega)
    · rw [if_neg g]
      exact g
/-- A beginning that is as long as what they have in common. -/
theorem cmn_take : ∀ (a b : List ByteArray) (n : Nat), n ≤ cmn a b → cmn (a.take n) b = n
  | [], b, n => by
    intro h
    have h0 : n = 0 := by cases b <;> simpa [cmn] using h
    subst h0
    cases b <;> simp [cmn]
  | _ :: _, [], n => by
    simp only [cmn]
    intro h
    obtain rfl : n = 0 := by omega
    rfl
  | x :: xs, y :: ys, n => by
    intro h
    cases n with
    | zero => rfl
    | succ n =>
      simp only [cmn] at h
      by_cases g : x.toList = y.toList
      · rw [if_pos g] at h
        rw [List.take_succ_cons]
        simp only [cmn]
        rw [if_pos g, cmn_take xs ys n (by omega)]
      · rw [if_neg g] at h
        omega
theorem cmn_drop (a b : List ByteArray) (i : Nat) (h : i ≤ cmn a b) : cmn a b = i + cmn (a.drop i) (b.drop i) := by
  induction i generalizing a b with
  | zero => simp
  | succ i ih =>
    match a, b with
    | [], b => cases b <;> simp [cmn] at h
    | _ :: _, [] => simp [cmn] at h
    | x :: xs, y :: ys =>
      simp only [cmn] at h ⊢
      by_cases g : x.toList = y.toList
      · rw [if_pos g] at h ⊢
        rw [List.drop_succ_cons, List.drop_succ_cons]
        have := ih xs ys (by omega)
        omega
      · rw [if_neg g] at h
        omega
theorem cmn_self (a : List ByteArray) : cmn a a = a.length := by
  induction a with
  | nil => rfl
  | cons x xs ih => simp [cmn, ih]
end Go.Proofs.YtokebimfflobbaaDoor.P
