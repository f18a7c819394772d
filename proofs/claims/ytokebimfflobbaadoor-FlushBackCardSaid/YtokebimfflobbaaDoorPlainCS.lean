/- What is written is read by a shape with a star. -/
import Derived.Test.YtokebimfflobbaaDoorPx6
import Derived.Test.YtokebimfflobbaaDoorPlainCG
namespace Go.Proofs.YtokebimfflobbaaDoor.P
open Go.RowKit Go.Proofs.YtokebimfflobbaaDoorW.PrintWords Go.Proofs.YtokebimfflobbaaDoorW.PrintLast Go.Proofs.YtokebimfflobbaaDoorW.PrintMore
set_option linter.unusedSimpArgs false
set_option linter.unusedVariables false
set_option maxRecDepth 100000
theorem decS_star (b : List Int) (n : Nat) (out : List S58) (s : ByteArray) (hs : s.toList ≠ ([] : List UInt8)) (hb : b ≠ []) : decS b n [] out s = decS b n b out s := by
  cases b with
  | nil => exact absurd rfl hb
  | cons x xs =>
    cases n with
    | zero => simp only [decS, nextK]; rw [if_neg hs]
    | succ n => simp only [decS, nextK]; rw [if_neg hs]
theorem decS_done (b : List Int) (n : Nat) (out : List S58) (s : ByteArray) (hs : s.toList = ([] : List UInt8)) : decS b n [] out s = (out, 0) := by
  cases b with
  | nil =>
    cases n with
    | zero => simp only [decS, nextK]; rw [if_pos hs]
    | succ n => simp only [decS, nextK]; rw [if_pos hs]
  | cons x xs =>
    cases n with
    | zero => simp only [decS, nextK]; rw [if_pos hs]
    | succ n => simp only [decS, nextK]; rw [if_pos hs]
theorem dec_enc_star (b : List Int) (hb : b ≠ []) (j : Nat) : ∀ (l : List S58) (m : List Int) (n : Nat) (out : List S58) (s : ByteArray), (∀ x ∈ l, WfI x) → encAll l = .ok m → l.map (·.f0) = (List.replicate j b).flatten → l.length ≤ n → s.data.toList = toU m →
    decS b n [] out s = (out ++ l, 0) := by
  induction j with
  | zero =>
    intro l m n out s hw h hk hl hs
    have e : l = [] := by
      have : l.map (·.f0) = [] := by rw [hk]; simp
      exact List.map_eq_nil_iff.1 this
    subst e
    cases h
    rw [decS_done b n out s (by rw [toList_eq, hs]; rfl), List.append_nil]
  | succ j ih =>
    intro l m n out s hw h hk hl hs
    rw [List.replicate_succ, List.flatten_cons] at hk
    obtain ⟨l1, l2, rfl, k1, k2⟩ := List.map_eq_append_iff.1 hk
    rw [encAll_append] at h
    cases h1 : encAll l1 with
    | error e => rw [h1] at h; cases h
    | ok m1 =>
      rw [h1] at h
      cases h2 : encAll l2 with
      | error e => rw [h2] at h; cases h
      | ok m2 =>
        rw [h2] at h
        cases h
        rw [List.length_append] at hl
        have hne : toU m1 ≠ [] := by
          cases l1 with
          | nil => exact absurd k1.symm hb
          | cons x xs =>
            simp only [encAll] at h1
            cases g1 : encOne x with
            | error e => rw [g1] at h1; cases h1
            | ok a =>
              rw [g1] at h1
              have hp := encOne_pos g1
              cases g2 : encAll xs with
              | error e => rw [g2] at h1; cases h1
              | ok c =>
                rw [g2] at h1
                cases h1
                intro e
                have := congrArg List.length e
                rw [toU_length, List.length_append, List.length_nil] at this
                omega
        rw [toU_append] at hs
        have hsn : s.toList ≠ ([] : List UInt8) := by
          rw [toList_eq, hs]
          intro e
          exact hne (List.append_eq_nil_iff.1 e).1
        rw [decS_star b n out s hsn hb]
        have := dec_enc b (toU m2) l1 m1 n [] out s (fun x hx => hw x (List.mem_append_left _ hx)) h1 (by omega) hs
        rw [List.append_nil, k1] at this
        rw [this, ih l2 m2 (n - l1.length) (out ++ l1) _ (fun x hx => hw x (List.mem_append_right _ hx)) h2 k2 (by omega) rfl, List.append_assoc]
end Go.Proofs.YtokebimfflobbaaDoor.P
