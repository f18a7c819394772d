/- What is read as a view is written as it stood: the shape of what is read (under way). -/
import Derived.Test.YtokebimfflobbaaDoorPx7
import Derived.Test.YtokebimfflobbaaDoorPlainVC
import Derived.Test.YtokebimfflobbaaDoorPlainCS
namespace Go.Proofs.YtokebimfflobbaaDoor.P
open Go.RowKit Go.Proofs.YtokebimfflobbaaDoorW.PrintWords Go.Proofs.YtokebimfflobbaaDoorW.PrintLast Go.Proofs.YtokebimfflobbaaDoorW.PrintMore
set_option linter.unusedSimpArgs false
set_option linter.unusedVariables false
set_option maxRecDepth 100000
theorem num_parts (x : S58) (a : List Int) (hx : encOne x = .ok a) (h4 : x.f0 ≠ 4) : x.f2 = ⟨#[]⟩ ∧ (x.f0 = 1 → x.f1 / 256 = 0) := by
  unfold encOne at hx
  rw [if_neg h4] at hx
  split at hx
  · split at hx
    · rename_i g1 g2
      split at hx
      · rename_i g3
        refine ⟨ba_nil g2, fun e1 => ?_⟩
        rcases g3 with g3 | g3
        · rw [e1] at g3; exact absurd g3 (by decide)
        · rw [e1] at g3; simpa [widthI] using g3
      · cases hx
    · cases hx
  · cases hx
theorem text_parts (x : S58) (a : List Int) (hx : encOne x = .ok a) (h4 : x.f0 = 4) : x.f1 = 0 := by
  unfold encOne at hx
  rw [if_pos h4] at hx
  split at hx
  · assumption
  · cases hx
/-- Items of a star's kinds are a list of members. -/
theorem pairs_of (j : Nat) : ∀ (l : List S58) (e : List Int), encAll l = .ok e → (∀ x ∈ l, WfI x) → l.map (·.f0) = (List.replicate j [1, 3]).flatten →
    ∃ ms : List S47, ms.length = j ∧ l = mPlain ms ∧ ∀ m ∈ ms, (0 ≤ m.f0 ∧ m.f0 < 256) ∧ 0 ≤ m.f1 := by
  induction j with
  | zero =>
    intro l e _ _ hk
    have : l = [] := List.map_eq_nil_iff.1 (by rw [hk]; simp)
    subst this
    exact ⟨[], rfl, rfl, fun m h => by cases h⟩
  | succ j ih =>
    intro l e he hw hk
    rw [List.replicate_succ, List.flatten_cons] at hk
    match l, hk, he, hw with
    | [], hk, _, _ => simp at hk
    | [x], hk, _, _ => simp at hk
    | x :: y :: r, hk, he, hw =>
      simp only [List.map_cons, List.cons_append, List.nil_append, List.cons.injEq] at hk
      obtain ⟨kx, ky, kr⟩ := hk
      simp only [encAll] at he
      cases g1 : encOne x with
      | error e1 => rw [g1] at he; cases he
      | ok a =>
        rw [g1] at he
        cases g2 : encOne y with
        | error e1 => rw [g2] at he; cases he
        | ok b =>
          rw [g2] at he
          cases g3 : encAll r with
          | error e1 => rw [g3] at he; cases he
          | ok c =>
            obtain ⟨ms, h1, h2, h3⟩ := ih r c g3 (fun z hz => hw z (by simp [hz])) kr
            obtain ⟨px, qx⟩ := num_parts x a g1 (by rw [kx]; decide)
            obtain ⟨py, qy⟩ := num_parts y b g2 (by rw [ky]; decide)
            have wx := (hw x (by simp)).1
            have wy := (hw y (by simp)).1
            have qx' := qx kx
            refine ⟨⟨x.f1, y.f1⟩ :: ms, by simp [h1], ?_, ?_⟩
            · obtain ⟨x0, x1, x2⟩ := x
              obtain ⟨y0, y1, y2⟩ := y
              dsimp only at kx ky px py
              subst kx ky px py h2
              rfl
            · intro m hm
              rcases List.mem_cons.1 hm with rfl | hm
              · exact ⟨⟨wx, by show x.f1 < 256; omega⟩, wy⟩
              · exact h3 m hm
end Go.Proofs.YtokebimfflobbaaDoor.P
