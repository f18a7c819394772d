/- The longest of some logs, told plainly. -/
import Derived.Test.YtokebimfflobbaaDoorPx2
import Derived.Test.YtokebimfflobbaaDoorPlainA
namespace Go.Proofs.YtokebimfflobbaaDoor.P
open Go.RowKit Go.Proofs.YtokebimfflobbaaDoorW.PrintWords Go.Proofs.YtokebimfflobbaaDoorW.PrintLast Go.Proofs.YtokebimfflobbaaDoorW.PrintMore
set_option linter.unusedSimpArgs false
set_option linter.unusedVariables false
set_option maxRecDepth 100000
theorem cmn_takes : ∀ (l : List ByteArray) (p q : Nat), p ≤ l.length → q ≤ l.length → cmn (l.take p) (l.take q) = min p q
  | [], p, q => by
    intro h1 h2
    have h1' : p = 0 := by simpa using h1
    have h2' : q = 0 := by simpa using h2
    subst h1' h2'
    rfl
  | x :: xs, p, q => by
    intro h1 h2
    cases p with
    | zero => simp [cmn]
    | succ p =>
      cases q with
      | zero => simp [cmn]
      | succ q =>
        rw [List.take_succ_cons, List.take_succ_cons]
        simp only [cmn]
        rw [if_pos trivial, cmn_takes xs p q (by simpa using h1) (by simpa using h2)]
        omega
/-- The one that has all of the others. -/
def lng : List ByteArray → List (List ByteArray) → Option (List ByteArray)
  | best, [] => some best
  | best, x :: r => if cmn x best = x.length then lng best r else if cmn best x = best.length then lng x r else none
def top : Nat → List Nat → Nat
  | m, [] => m
  | m, c :: r => if c ≤ m then top m r else top c r
theorem top_ge : ∀ (r : List Nat) (m : Nat), m ≤ top m r ∧ (∀ c ∈ r, c ≤ top m r) ∧ (top m r = m ∨ top m r ∈ r)
  | [], m => by simp [top]
  | c :: r, m => by
    simp only [top]
    by_cases h : c ≤ m
    · rw [if_pos h]
      obtain ⟨h1, h2, h3⟩ := top_ge r m
      refine ⟨h1, ?_, ?_⟩
      · intro d hd
        rcases List.mem_cons.1 hd with rfl | hd
        · omega
        · exact h2 d hd
      · rcases h3 with h3 | h3
        · exact .inl h3
        · exact .inr (List.mem_cons_of_mem _ h3)
    · rw [if_neg h]
      obtain ⟨h1, h2, h3⟩ := top_ge r c
      refine ⟨by omega, ?_, ?_⟩
      · intro d hd
        rcases List.mem_cons.1 hd with rfl | hd
        · exact h1
        · exact h2 d hd
      · rcases h3 with h3 | h3
        · exact .inr (by rw [h3]; exact List.mem_cons_self ..)
        · exact .inr (List.mem_cons_of_mem _ h3)
theorem lng_takes (l : List ByteArray) : ∀ (cs : List Nat) (m : Nat), m ≤ l.length → (∀ c ∈ cs, c ≤ l.length) → lng (l.take m) (cs.map fun c => l.take c) = some (l.take (top m cs))
  | [], m => by intros; rfl
  | c :: cs, m => by
    intro hm hc
    have h1 := hc c (List.mem_cons_self ..)
    simp only [List.map_cons, lng, top]
    rw [cmn_takes l c m h1 hm, cmn_takes l m c hm h1, List.length_take, List.length_take]
    by_cases h : c ≤ m
    · rw [if_pos (by omega), if_pos h]
      exact lng_takes l cs m hm (fun d hd => hc d (List.mem_cons_of_mem _ hd))
    · rw [if_neg (by omega), if_pos (by omega), if_neg h]
      exact lng_takes l cs c h1 (fun d hd => hc d (List.mem_cons_of_mem _ hd))
end Go.Proofs.YtokebimfflobbaaDoor.P
