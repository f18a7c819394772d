/- What a reader of records tells of bytes. -/
import Derived.Test.YtmjgifhgodgghaaDoorPx6
import Derived.Test.YtmjgifhgodgghaaDoorPlainC
import Derived.Test.YtmjgifhgodgghaaDoorPlainS
namespace Go.Proofs.YtmjgifhgodgghaaDoor.P
open Go.RowKit Go.Proofs.YtmjgifhgodgghaaDoorW.PrintWords Go.Proofs.YtmjgifhgodgghaaDoorW.PrintLast Go.Proofs.YtmjgifhgodgghaaDoorW.PrintMore
set_option linter.unusedSimpArgs false
set_option linter.unusedVariables false
set_option maxRecDepth 100000
def nextV (s : ByteArray) (least : Int) (u : Nat) : Option ((SR × Nat) ⊕ Int) :=
  if u = s.size then none
  else if (takeV (s.extract u s.size)).2.2 = 0 then
    (if (recV (takeV (s.extract u s.size)).1).2 = 0 then
      (if (recV (takeV (s.extract u s.size)).1).1.f0 < least then some (.inr 11) else some (.inl ((recV (takeV (s.extract u s.size)).1).1, (takeV (s.extract u s.size)).1.size + 8)))
    else some (.inr (recV (takeV (s.extract u s.size)).1).2))
  else some (.inr (takeV (s.extract u s.size)).2.2)
def scanV (s : ByteArray) : Nat → Int → Nat → List (SR × Nat) × Nat × Int
  | 0, _, u => ([], u, 0)
  | n + 1, least, u => match nextV s least u with
    | none => ([], u, 0)
    | some (.inr e) => ([], u, e)
    | some (.inl (x, z)) => ((x, u) :: (scanV s n (x.f0 + 1) (u + z)).1, (scanV s n (x.f0 + 1) (u + z)).2)
theorem nextV_inl {s : ByteArray} {least : Int} {u : Nat} {x : SR} {z : Nat} (hu : u ≤ s.size) (h : nextV s least u = some (.inl (x, z))) :
    RecP x ∧ least ≤ x.f0 ∧ 8 ≤ z ∧ u + z ≤ s.size ∧ (takeV (s.extract u s.size)).2.2 = 0 ∧ (takeV (s.extract u s.size)).2.1 = (z : Int) ∧ recV (takeV (s.extract u s.size)).1 = (x, 0) := by
  unfold nextV at h
  split at h
  · cases h
  · split at h
    · rename_i h1
      split at h
      · rename_i h2
        split at h
        · cases h
        · rename_i h3
          injection h with h
          injection h with h
          obtain ⟨rfl, rfl⟩ := Prod.mk.inj h
          rcases take_tells (s.extract u s.size) with ⟨_, g2, g3⟩ | ⟨g1, _⟩
          · rw [ByteArray.size_extract] at g3
            refine ⟨?_, by omega, by omega, by omega, h1, g2, Prod.ext rfl h2⟩
            rcases recV_or (takeV (s.extract u s.size)).1 with ⟨r, hr, hp⟩ | hr
            · rw [hr]; exact hp
            · rw [hr] at h2; simp at h2
          · exact absurd h1 g1
      · cases h
    · cases h
theorem nextV_err {s : ByteArray} {least : Int} {u : Nat} {e : Int} (h : nextV s least u = some (.inr e)) : e ≠ 0 := by
  unfold nextV at h
  split at h
  · cases h
  · split at h
    · split at h
      · split at h
        · injection h with h
          injection h with h
          rw [← h]; decide
        · cases h
      · rename_i h2
        injection h with h
        injection h with h
        rw [← h]; exact h2
    · rename_i h1
      injection h with h
      injection h with h
      rw [← h]; exact h1
/-- Enough rounds tell the same. -/
theorem scanV_more (s : ByteArray) : ∀ (n m : Nat) (least : Int) (u : Nat), u ≤ s.size → s.size - u < n → s.size - u < m → scanV s n least u = scanV s m least u
  | 0, m, least, u => by intro _ h; omega
  | n + 1, m, least, u => by
    intro hu h1 h2
    obtain ⟨m, rfl⟩ : ∃ z, m = z + 1 := ⟨m - 1, by omega⟩
    simp only [scanV]
    cases hx : nextV s least u with
    | none => rfl
    | some v =>
      cases v with
      | inr e => rfl
      | inl p =>
        obtain ⟨x, z⟩ := p
        obtain ⟨_, _, h8, hz, _⟩ := nextV_inl hu hx
        dsimp only
        rw [scanV_more s n m (x.f0 + 1) (u + z) hz (by omega) (by omega)]
/-- Where records begin at a later least offset that the first one keeps to, all is the same. -/
theorem nextV_least {s : ByteArray} {a b : Int} {u : Nat} {x : SR} {z : Nat} (hu : u ≤ s.size) (h : nextV s a u = some (.inl (x, z))) (hb : b ≤ x.f0) : nextV s b u = some (.inl (x, z)) := by
  obtain ⟨_, _, _, _, h1, h2, h3⟩ := nextV_inl hu h
  unfold nextV at h ⊢
  rw [h3] at h ⊢
  dsimp only at h ⊢
  split at h
  · cases h
  · rename_i h4
    rw [if_neg h4, if_pos h1, if_pos rfl, if_neg (by omega)]
    first | rw [if_pos h1, if_pos rfl] at h | rw [if_pos rfl] at h
    split at h
    · cases h
    · exact h
/-- All that is told: right records, whose offsets rise. -/
def risesR : Int → List SR → Prop
  | _, [] => True
  | a, x :: r => RecP x ∧ a ≤ x.f0 ∧ risesR (x.f0 + 1) r
theorem scanV_rises (s : ByteArray) : ∀ (n : Nat) (least : Int) (u : Nat), u ≤ s.size → risesR least ((scanV s n least u).1.map (·.1)) ∧ (scanV s n least u).2.1 ≤ s.size ∧ u + 8 * (scanV s n least u).1.length ≤ (scanV s n least u).2.1
  | 0, least, u => fun hu => ⟨trivial, hu, by simp [scanV]⟩
  | n + 1, least, u => by
    intro hu
    simp only [scanV]
    cases hx : nextV s least u with
    | none => exact ⟨trivial, hu, by simp⟩
    | some v =>
      cases v with
      | inr e => exact ⟨trivial, hu, by simp⟩
      | inl p =>
        obtain ⟨x, z⟩ := p
        obtain ⟨h1, h2, h8, hz, _⟩ := nextV_inl hu hx
        obtain ⟨i1, i2, i3⟩ := scanV_rises s n (x.f0 + 1) (u + z) hz
        exact ⟨⟨h1, h2, i1⟩, i2, by dsimp only; rw [List.length_cons]; omega⟩
theorem risesR_mono {a b : Int} (h : b ≤ a) : ∀ {l : List SR}, risesR a l → risesR b l
  | [], _ => trivial
  | x :: r, hl => ⟨hl.1, by have := hl.2.1; omega, hl.2.2⟩
theorem risesR_ge : ∀ {l : List SR} {a : Int}, risesR a l → ∀ x ∈ l, a ≤ x.f0 ∧ RecP x
  | [], _, _ => fun x hx => by cases hx
  | y :: r, a, h => by
    intro x hx
    rcases List.mem_cons.1 hx with rfl | hx
    · exact ⟨h.2.1, h.1⟩
    · obtain ⟨h1, h2⟩ := risesR_ge h.2.2 x hx
      have := h.2.1
      exact ⟨by omega, h2⟩
/-- From a record's place on the same records are told, whatever least offset (not above the record's) is asked for. -/
theorem scanV_suffix (s : ByteArray) (base : Int) : ∀ (n : Nat) (least : Int) (u : Nat) (p q : List (SR × Nat)) (y : SR × Nat), u ≤ s.size → s.size - u < n → base ≤ least → (scanV s n least u).1 = p ++ y :: q →
    ∃ e, scanV s (s.size + 1) base y.2 = (y :: q, e) ∧ e = (scanV s n least u).2 ∧ y.2 ≤ s.size
  | 0, least, u, p, q, y => by intro _ h; omega
  | n + 1, least, u, p, q, y => by
    intro hu hn hb h
    simp only [scanV] at h ⊢
    cases hx : nextV s least u with
    | none => rw [hx] at h; simp at h
    | some v =>
      cases v with
      | inr e => rw [hx] at h; simp at h
      | inl pr =>
        obtain ⟨x, z⟩ := pr
        obtain ⟨h1, h2, h8, hz, _⟩ := nextV_inl hu hx
        rw [hx] at h
        dsimp only at h ⊢
        cases p with
        | nil =>
          rw [List.nil_append] at h
          injection h with ha hq
          subst ha
          refine ⟨_, ?_, rfl, hu⟩
          have hnx := nextV_least hu hx (show base ≤ x.f0 by omega)
          show scanV s (s.size + 1) base u = _
          simp only [scanV]
          rw [hnx]
          dsimp only
          rw [scanV_more s s.size n (x.f0 + 1) (u + z) hz (by omega) (by omega), hq]
        | cons a p =>
          rw [List.cons_append] at h
          injection h with ha hq
          exact scanV_suffix s base n (x.f0 + 1) (u + z) p q y hz (by omega) (by omega) hq
end Go.Proofs.YtmjgifhgodgghaaDoor.P
