/- Records that are written, one frame behind the other. -/
import Derived.Test.YtmjgifhgodgghaaDoorPx6
import Derived.Test.YtmjgifhgodgghaaDoorPlainB
namespace Go.Proofs.YtmjgifhgodgghaaDoor.P
open Go.RowKit Go.Proofs.YtmjgifhgodgghaaDoorW.PrintWords Go.Proofs.YtmjgifhgodgghaaDoorW.PrintLast Go.Proofs.YtmjgifhgodgghaaDoorW.PrintMore
set_option linter.unusedSimpArgs false
set_option linter.unusedVariables false
set_option maxRecDepth 100000
def frR (r : SR) : List UInt8 := frameL (ls (recB r))
def framesR : List SR → List UInt8
  | [] => []
  | r :: l => frR r ++ framesR l
def lenR (r : SR) : Nat := (recB r).size + 8
def flenR : List SR → Nat
  | [] => 0
  | r :: l => lenR r + flenR l
def posR : Nat → List SR → List (SR × Nat)
  | _, [] => []
  | u, r :: l => (r, u) :: posR (u + lenR r) l
theorem frR_len (r : SR) : (frR r).length = lenR r := by
  unfold frR lenR
  rw [frameL_len, ls_len]
theorem framesR_len : ∀ l : List SR, (framesR l).length = flenR l
  | [] => rfl
  | r :: l => by
    show (frR r ++ framesR l).length = lenR r + flenR l
    rw [List.length_append, frR_len, framesR_len l]
theorem framesR_append : ∀ (a b : List SR), framesR (a ++ b) = framesR a ++ framesR b
  | [], b => rfl
  | r :: a, b => by
    show frR r ++ framesR (a ++ b) = (frR r ++ framesR a) ++ framesR b
    rw [framesR_append a b, List.append_assoc]
theorem flenR_append : ∀ (a b : List SR), flenR (a ++ b) = flenR a + flenR b
  | [], b => (Nat.zero_add _).symm
  | r :: a, b => by
    show lenR r + flenR (a ++ b) = lenR r + flenR a + flenR b
    rw [flenR_append a b, Nat.add_assoc]
theorem posR_fst : ∀ (u : Nat) (l : List SR), (posR u l).map (·.1) = l
  | _, [] => rfl
  | u, r :: l => by
    show r :: (posR (u + lenR r) l).map (·.1) = r :: l
    rw [posR_fst]
theorem posR_append : ∀ (u : Nat) (a b : List SR), posR u (a ++ b) = posR u a ++ posR (u + flenR a) b
  | u, [], b => rfl
  | u, r :: a, b => by
    show (r, u) :: posR (u + lenR r) (a ++ b) = (r, u) :: (posR (u + lenR r) a ++ posR (u + (lenR r + flenR a)) b)
    rw [posR_append, Nat.add_assoc]
theorem lenR_le {r : SR} (h : RecP r) : lenR r ≤ 1156 := by
  have := recB_le h
  unfold lenR
  omega
theorem lenR_ge (r : SR) : 8 ≤ lenR r := by unfold lenR; omega
theorem ls_from (s : ByteArray) (u : Nat) : ls (s.extract u s.size) = (ls s).drop u := by
  rw [ls_extract, List.take_of_length_le]
  rw [List.length_drop, ls_len]
  exact Nat.le_refl _
theorem next_frame {s : ByteArray} {u : Nat} {r : SR} {t : List UInt8} {least : Int} (h : (ls s).drop u = frR r ++ t) (hr : RecP r) (hl : least ≤ r.f0) : nextV s least u = some (.inl (r, lenR r)) := by
  have hlen := congrArg List.length h
  rw [List.length_drop, ls_len, List.length_append, frR_len] at hlen
  have hge := lenR_ge r
  have ht := take_frame (recB r) (by have := recB_le hr; omega) (s.extract u s.size) t (by rw [ls_from]; exact h)
  unfold nextV
  rw [if_neg (by omega), ht]
  dsimp only
  rw [if_pos rfl, recV_enc hr]
  dsimp only
  rw [if_pos rfl, if_neg (by omega)]
  rfl
theorem scan_frames (s : ByteArray) (t : List UInt8) : ∀ (l : List SR) (u n : Nat) (least : Int), risesR least l → (ls s).drop u = framesR l ++ t → u ≤ s.size → l.length ≤ n →
    ∃ least', (l = [] → least' = least) ∧ least ≤ least' ∧ scanV s n least u = (posR u l ++ (scanV s (n - l.length) least' (u + flenR l)).1, (scanV s (n - l.length) least' (u + flenR l)).2) ∧ (ls s).drop (u + flenR l) = t ∧ u + flenR l ≤ s.size
  | [], u, n, least => by
    intro _ h hu _
    exact ⟨least, fun _ => rfl, Int.le_refl _, by simp [posR, flenR], by simpa [framesR, flenR] using h, by simpa [flenR] using hu⟩
  | r :: l, u, n, least => by
    intro hr h hu hn
    rw [List.length_cons] at hn
    obtain ⟨n, rfl⟩ : ∃ m, n = m + 1 := ⟨n - 1, by omega⟩
    have h' : (ls s).drop u = frR r ++ (framesR l ++ t) := by rw [h]; show (frR r ++ framesR l) ++ t = _; rw [List.append_assoc]
    have hlen := congrArg List.length h'
    rw [List.length_drop, ls_len, List.length_append, frR_len] at hlen
    have hge := lenR_ge r
    have hd : (ls s).drop (u + lenR r) = framesR l ++ t := by
      rw [← List.drop_drop, h', List.drop_left' (frR_len r)]
    obtain ⟨least', h1, h2, h3, h4, h5⟩ := scan_frames s t l (u + lenR r) n (r.f0 + 1) hr.2.2 hd (by omega) (by omega)
    have hx := next_frame (least := least) h' hr.1 hr.2.1
    refine ⟨least', (fun e => by cases e), (by have := hr.2.1; omega), ?_, ?_, ?_⟩
    · simp only [scanV]
      rw [hx]
      dsimp only
      rw [h3, List.length_cons, show n + 1 - (l.length + 1) = n - l.length by omega]
      show _ = ((r, u) :: posR (u + lenR r) l ++ (scanV s (n - l.length) least' (u + (lenR r + flenR l))).1, (scanV s (n - l.length) least' (u + (lenR r + flenR l))).2)
      rw [← Nat.add_assoc]
      rfl
    · show (ls s).drop (u + (lenR r + flenR l)) = t
      rw [← Nat.add_assoc]; exact h4
    · show u + (lenR r + flenR l) ≤ s.size
      rw [← Nat.add_assoc]; exact h5
/-- All records, where nothing stands behind them. -/
theorem scan_all {s : ByteArray} {l : List SR} {least : Int} (h : ls s = framesR l) (hr : risesR least l) (n : Nat) (hn : s.size < n) : scanV s n least 0 = (posR 0 l, s.size, 0) := by
  have hlen := congrArg List.length h
  rw [ls_len, framesR_len] at hlen
  have hll : ∀ l : List SR, l.length ≤ flenR l := by
    intro l
    induction l with
    | nil => exact Nat.le_refl _
    | cons r l ih => have := lenR_ge r; simp only [List.length_cons, flenR]; omega
  have := hll l
  obtain ⟨least', _, _, h3, _, _⟩ := scan_frames s [] l 0 n least hr (by rw [List.drop_zero, h, List.append_nil]) (Nat.zero_le _) (by omega)
  rw [h3, Nat.zero_add, ← hlen]
  obtain ⟨m, hm⟩ : ∃ m, n - l.length = m + 1 := ⟨n - l.length - 1, by omega⟩
  rw [hm]
  simp only [scanV]
  unfold nextV
  rw [if_pos rfl, List.append_nil]
/-- Records ahead of what no record can be taken of. -/
theorem scan_upto {s : ByteArray} {l : List SR} {t : List UInt8} {least : Int} {e : Int} (h : ls s = framesR l ++ t) (hr : risesR least l) (ht : 0 < t.length) (he : e ≠ 0) (htk : ∀ x : ByteArray, ls x = t → (takeV x).2.2 = e) (n : Nat) (hn : s.size < n) : scanV s n least 0 = (posR 0 l, flenR l, e) := by
  have hlen := congrArg List.length h
  rw [ls_len, List.length_append, framesR_len] at hlen
  have hll : ∀ l : List SR, l.length ≤ flenR l := by
    intro l
    induction l with
    | nil => exact Nat.le_refl _
    | cons r l ih => have := lenR_ge r; simp only [List.length_cons, flenR]; omega
  have := hll l
  obtain ⟨least', _, _, h3, h4, _⟩ := scan_frames s t l 0 n least hr (by rw [List.drop_zero, h]) (Nat.zero_le _) (by omega)
  rw [Nat.zero_add] at h3 h4
  rw [h3]
  obtain ⟨m, hm⟩ : ∃ m, n - l.length = m + 1 := ⟨n - l.length - 1, by omega⟩
  rw [hm]
  have hx := htk (s.extract (flenR l) s.size) (by rw [ls_from, h4])
  simp only [scanV]
  unfold nextV
  rw [if_neg (by omega), hx, if_neg he, List.append_nil]
end Go.Proofs.YtmjgifhgodgghaaDoor.P
