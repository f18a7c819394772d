/- Records that are written, one frame behind the other. -/
import Derived.Test.YtmjgifhgodgghaaDoorPx16
import Derived.Test.YtmjgifhgodgghaaDoorPx18
import Derived.Test.YtmjgifhgodgghaaDoorPx24
import Derived.Test.YtmjgifhgodgghaaDoorPx6
import Derived.Test.YtmjgifhgodgghaaDoorPlainH
namespace Go.Proofs.YtmjgifhgodgghaaDoor.P
open Go.RowKit Go.Proofs.YtmjgifhgodgghaaDoorW.PrintWords Go.Proofs.YtmjgifhgodgghaaDoorW.PrintLast Go.Proofs.YtmjgifhgodgghaaDoorW.PrintMore
set_option linter.unusedSimpArgs false
set_option linter.unusedVariables false
set_option maxRecDepth 100000
def frR (r : SR) : List UInt8 := frameL (ls (recB r))
def framesR : List SR → List UInt8
  | [] => []
  | r :: l => frR r ++ framesR l
def lenR (r : SR) : Nat := (recB r).size + 8
def flenR : List SR → Nat
  | [] => 0
  | r :: l => lenR r + flenR l
def posR : Nat → List SR → List (SR × Nat)
  | _, [] => []
  | u, r :: l => (r, u) :: posR (u + lenR r) l
theorem frR_len (r : SR) : (frR r).length = lenR r := by
  unfold frR lenR
  rw [frameL_len, ls_len]
theorem framesR_len : ∀ l : List SR, (framesR l).length = flenR l
  | [] => rfl
  | r :: l => by
    show (frR r ++ framesR l).length = lenR r + flenR l
    rw [List.length_append, frR_len, framesR_len l]
theorem framesR_append : ∀ (a b : List SR), framesR (a ++ b) = framesR a ++ framesR b
  | [], b => rfl
  | r :: a, b => by
    show frR r ++ framesR (a ++ b) = (frR r ++ framesR a) ++ framesR b
    rw [framesR_append a b, List.append_assoc]
theorem flenR_append : ∀ (a b : List SR), flenR (a ++ b) = flenR a + flenR b
  | [], b => (Nat.zero_add _).symm
  | r :: a, b => by
    show lenR r + flenR (a ++ b) = lenR r + flenR a + flenR b
    rw [flenR_append a b, Nat.add_assoc]
theorem posR_fst : ∀ (u : Nat) (l : List SR), (posR u l).map (·.1) = l
  | _, [] => rfl
  | u, r :: l => by
    show r :: (posR (u + lenR r) l).map (·.1) = r :: l
    rw [posR_fst]
theorem posR_append : ∀ (u : Nat) (a b : List SR), posR u (a ++ b) = posR u a ++ posR (u + flenR a) b
  | u, [], b => rfl
  | u, r :: a, b => by
    show (r, u) :: posR (u + lenR r) (a ++ b) = (r, u) :: (posR (u + lenR r) a ++ posR (u + (lenR r + flenR a)) b)
    rw [posR_append, Nat.add_assoc]
theorem lenR_le {r : SR} (h : RecP r) : lenR r ≤ 1156 := by
  have := recB_le h
  unfold lenR
  omega
theorem lenR_ge (r : SR) : 8 ≤ lenR r := by unfold lenR; omega
theorem ls_from (s : ByteArray) (u : Nat) : ls (s.extract u s.size) = (ls s).drop u := by
  rw [ls_extract, List.take_of_length_le]
  rw [List.length_drop, ls_len]
  exact Nat.le_refl _
theorem next_frame {s : ByteArray} {u : Nat} {r : SR} {t : List UInt8} {least : Int} (h : (ls s).drop u = frR r ++ t) (hr : RecP r) (hl : least ≤ r.f0) : nextV s least u = some (.inl (r, lenR r)) := by
  have hlen := congrArg List.length h
  rw [List.length_drop, ls_len, List.length_append, frR_len] at hlen
  have hge := lenR_ge r
  have ht := take_frame (recB r) (by have := recB_le hr; omega) (s.extract u s.size) t (by rw [ls_from]; exact h)
  unfold nextV
  rw [if_neg (by omega), ht]
  dsimp only
  rw [if_pos rfl, recV_enc hr]
  dsimp only
  rw [if_pos rfl, if_neg (by omega)]
  rfl
theorem scan_frames (s : ByteArray) (t : List UInt8) : ∀ (l : List SR) (u n : Nat) (least : Int), risesR least l → (ls s).drop u = framesR l ++ t → u ≤ s.size → l.length ≤ n →
    ∃ least', (l = [] → least' = least) ∧ least ≤ least' ∧ scanV s n least u = (posR u l ++ (scanV s (n - l.length) least' (u + flenR l)).1, (scanV s (n - l.length) least' (u + flenR l)).2) ∧ (ls s).drop (u + flenR l) = t ∧ u + flenR l ≤ s.size
  | [], u, n, least => by
    intro _ h hu _
    exact ⟨least, fun _ => rfl, Int.le_refl _, by simp [posR, flenR], by simpa [framesR, flenR] using h, by simpa [flenR] using hu⟩
  | r :: l, u, n, least => by
    intro hr h hu hn
    rw [List.length_cons] at hn
    obtain ⟨n, rfl⟩ : ∃ m, n = m + 1 := ⟨n - 1, by omega⟩
    have h' : (ls s).drop u = frR r ++ (framesR l ++ t) := by rw [h]; show (frR r ++ framesR l) ++ t = _; rw [List.append_assoc]
    have hlen := congrArg List.length h'
    rw [List.length_drop, ls_len, List.length_append, frR_len] at hlen
    have hge := lenR_ge r
    have hd : (ls s).drop (u + lenR r) = framesR l ++ t := by
      rw [← List.drop_drop, h', List.drop_left' (frR_len r)]
    obtain ⟨least', h1, h2, h3, h4, h5⟩ := scan_frames s t l (u + lenR r) n (r.f0 + 1) hr.2.2 hd (by omega) (by omega)
    have hx := next_frame (least := least) h' hr.1 hr.2.1
    refine ⟨least', (fun e => by cases e), (by have := hr.2.1; omega), ?_, ?_, ?_⟩
    · simp only [scanV]
      rw [hx]
      dsimp only
      rw [h3, List.length_cons, show n + 1 - (l.length + 1) = n - l.length by omega]
      show _ = ((r, u) :: posR (u + lenR r) l ++ (scanV s (n - l.length) least' (u + (lenR r + flenR l))).1, (scanV s (n - l.length) least' (u + (lenR r + flenR l))).2)
      rw [← Nat.add_assoc]
      rfl
    · show (ls s).drop (u + (lenR r + flenR l)) = t
      rw [← Nat.add_assoc]; exact h4
    · show u + (lenR r + flenR l) ≤ s.size
      rw [← Nat.add_assoc]; exact h5
/-- All records, where nothing stands behind them. -/
theorem scan_all {s : ByteArray} {l : List SR} {least : Int} (h : ls s = framesR l) (hr : risesR least l) (n : Nat) (hn : s.size < n) : scanV s n least 0 = (posR 0 l, s.size, 0) := by
  have hlen := congrArg List.length h
  rw [ls_len, framesR_len] at hlen
  have hll : ∀ l : List SR, l.length ≤ flenR l := by
    intro l
    induction l with
    | nil => exact Nat.le_refl _
    | cons r l ih => have := lenR_ge r; simp only [List.length_cons, flenR]; omega
  have := hll l
  obtain ⟨least', _, _, h3, _, _⟩ := scan_frames s [] l 0 n least hr (by rw [List.drop_zero, h, List.append_nil]) (Nat.zero_le _) (by omega)
  rw [h3, Nat.zero_add, ← hlen]
  obtain ⟨m, hm⟩ : ∃ m, n - l.length = m + 1 := ⟨n - l.length - 1, by omega⟩
  rw [hm]
  simp only [scanV]
  unfold nextV
  rw [if_pos rfl, List.append_nil]
/-- Records ahead of what no record can be taken of. -/
theorem scan_upto {s : ByteArray} {l : List SR} {t : List UInt8} {least : Int} {e : Int} (h : ls s = framesR l ++ t) (hr : risesR least l) (ht : 0 < t.length) (he : e ≠ 0) (htk : ∀ x : ByteArray, ls x = t → (takeV x).2.2 = e) (n : Nat) (hn : s.size < n) : scanV s n least 0 = (posR 0 l, flenR l, e) := by
  have hlen := congrArg List.length h
  rw [ls_len, List.length_append, framesR_len] at hlen
  have hll : ∀ l : List SR, l.length ≤ flenR l := by
    intro l
    induction l with
    | nil => exact Nat.le_refl _
    | cons r l ih => have := lenR_ge r; simp only [List.length_cons, flenR]; omega
  have := hll l
  obtain ⟨least', _, _, h3, h4, _⟩ := scan_frames s t l 0 n least hr (by rw [List.drop_zero, h]) (Nat.zero_le _) (by omega)
  rw [Nat.zero_add] at h3 h4
  rw [h3]
  obtain ⟨m, hm⟩ : ∃ m, n - l.length = m + 1 := ⟨n - l.length - 1, by omega⟩
  rw [hm]
  have hx := htk (s.extract (flenR l) s.size) (by rw [ls_from, h4])
  simp only [scanV]
  unfold nextV
  rw [if_neg (by omega), hx, if_neg he, List.append_nil]
theorem srdR (l : List SR) (i : Nat) (h : i < l.length) : rd_T23 l (i : Int) = l[i] := by
  unfold rd_T23
  rw [show ((i : Int)).toNat = i from rfl, List.getD_eq_getElem?_getD, List.getElem?_eq_getElem h]
  rfl
theorem srecords_loop (l : List SR) (hl : l.length ≤ 1000000000000000) (d : Nat) : ∀ (i k : Nat), i + d = l.length → d < k → carillonlaw06_records.l0 k l l (i : Int) = some true := by
  induction d with
  | zero =>
    intro i k hi hk
    obtain ⟨k, rfl⟩ : ∃ m, k = m + 1 := ⟨k - 1, by omega⟩
    simp only [carillonlaw06_records.l0]
    rw [if_neg (by omega)]
  | succ d ih =>
    intro i k hi hk
    obtain ⟨k, rfl⟩ : ∃ m, k = m + 1 := ⟨k - 1, by omega⟩
    have ew : wrap64 ((i : Int) + 1) = ((i + 1 : Nat) : Int) := by unfold wrap64; omega
    simp only [carillonlaw06_records.l0]
    rw [if_pos (by omega), if_pos (by omega), if_pos (by omega), ew, ih (i + 1) k (by omega) (by omega), if_neg (by simp)]
theorem srecords_is (l : List SR) (hl : l.length ≤ 1000000000000000) (k : Nat) (hk : l.length < k) : carillonlaw06_records.f k l l = some true := by
  unfold carillonlaw06_records.f
  rw [if_pos rfl]
  exact srecords_loop l hl l.length 0 k (by omega) hk
theorem wf64 {x : Int} (h : (Lit.int .i64 x).wf = true) : -9223372036854775808 ≤ x ∧ x ≤ 9223372036854775807 := by
  have h2 := bounds_i64 h
  omega
theorem risesR_snoc : ∀ {acc : List SR} {a : Int} {x : SR}, risesR a acc → (∀ y ∈ acc, y.f0 + 1 ≤ x.f0) → a ≤ x.f0 → RecP x → risesR a (acc ++ [x])
  | [], a, x => fun _ _ h hp => ⟨hp, h, trivial⟩
  | y :: r, a, x => fun h h1 _ hp => ⟨h.1, h.2.1, risesR_snoc h.2.2 (fun z hz => h1 z (List.mem_cons_of_mem _ hz)) (h1 y (List.mem_cons_self ..)) hp⟩
theorem rising_loop (l : List SR) (hl : l.length ≤ 2199023255552) (hw : ∀ x ∈ l, -9223372036854775808 ≤ x.f0 ∧ x.f0 ≤ 9223372036854775807) (d : Nat) : ∀ (i k : Nat) (acc : List SR) (at_ : Int), i + d = min l.length 30 → d < k → acc.length ≤ i → risesR 0 acc → (∀ y ∈ acc, y.f0 + 1 ≤ at_) → 0 ≤ at_ → at_ ≤ 9007199254740992 →
    ∃ L, carillonlaw06_rising.l0 k l acc at_ (i : Int) = some L ∧ risesR 0 L ∧ L.length ≤ 30 := by
  induction d with
  | zero =>
    intro i k acc at_ hi hk ha hr hy h0 h1
    obtain ⟨k, rfl⟩ : ∃ m, k = m + 1 := ⟨k - 1, by omega⟩
    refine ⟨acc, ?_, hr, by omega⟩
    simp only [carillonlaw06_rising.l0]
    by_cases c : (i : Int) < (l.length : Int)
    · rw [if_pos c, if_neg (by omega)]
    · rw [if_neg c]
  | succ d ih =>
    intro i k acc at_ hi hk ha hr hy h0 h1
    obtain ⟨k, rfl⟩ : ∃ m, k = m + 1 := ⟨k - 1, by omega⟩
    have hlt : i < l.length := by omega
    have ew : wrap64 ((i : Int) + 1) = ((i + 1 : Nat) : Int) := by unfold wrap64; omega
    have hwi := hw l[i] (List.getElem_mem hlt)
    have hrd : rd_T23 l (i : Int) = l[i] := by
      unfold rd_T23
      rw [show ((i : Int)).toNat = i from rfl, List.getD_eq_getElem?_getD, List.getElem?_eq_getElem hlt]
      rfl
    have step : ∀ z : Int, 0 ≤ z → z < 5 → ∃ L, ((segment_Right.f (wrap64 (at_ + z)) l[i].f1 l[i].f2 l[i].f3 l[i].f4).bind fun t => (if t = true then (if acc.length < 2199023255552 then (carillonlaw06_rising.l0 k l (acc ++ [(⟨wrap64 (at_ + z), l[i].f1, l[i].f2, l[i].f3, l[i].f4⟩ : SR)]) (wrap64 (wrap64 (at_ + z) + 1)) ((i + 1 : Nat) : Int)) else none) else (carillonlaw06_rising.l0 k l acc at_ ((i + 1 : Nat) : Int)))) = some L ∧ risesR 0 L ∧ L.length ≤ 30 := by
      intro z hz0 hz5
      have e1 : wrap64 (at_ + z) = at_ + z := by unfold wrap64; omega
      rw [e1, sright_is]
      simp only [Option.bind_some]
      by_cases hp : RecP ⟨at_ + z, l[i].f1, l[i].f2, l[i].f3, l[i].f4⟩
      · have hp' := hp
        unfold RecP at hp'
        dsimp only at hp'
        have e2 : wrap64 (at_ + z + 1) = at_ + z + 1 := by unfold wrap64; omega
        rw [if_pos (by simpa using hp), if_pos (by omega), e2]
        exact ih (i + 1) k _ _ (by omega) (by omega) (by rw [List.length_append]; simp; omega) (risesR_snoc hr (fun y hy' => by have := hy y hy'; show y.f0 + 1 ≤ at_ + z; omega) (by show 0 ≤ at_ + z; omega) hp) (fun y hy' => by
          rcases List.mem_append.1 hy' with h | h
          · have := hy y h; omega
          · rw [List.mem_singleton.1 h]; show at_ + z + 1 ≤ at_ + z + 1; omega) (by omega) (by omega)
      · rw [if_neg (by simpa using hp)]
        exact ih (i + 1) k acc at_ (by omega) (by omega) (by omega) hr hy h0 h1
    simp only [carillonlaw06_rising.l0]
    rw [if_pos (by omega), if_pos (by omega), if_pos (by omega), hrd, ew]
    by_cases c : l[i].f0 < 0
    · rw [if_pos c]
      have e3 : wrap64 (-(wrap64 (l[i].f0 + 1))) = -(l[i].f0 + 1) := by unfold wrap64; omega
      rw [e3]
      exact step _ (Int.tmod_nonneg _ (by omega)) (Int.tmod_lt_of_pos _ (by omega))
    · rw [if_neg c]
      exact step _ (Int.tmod_nonneg _ (by omega)) (Int.tmod_lt_of_pos _ (by omega))
theorem rising_is (l : List SR) (hl : l.length ≤ 2199023255552) (hw : ∀ x ∈ l, -9223372036854775808 ≤ x.f0 ∧ x.f0 ≤ 9223372036854775807) (k : Nat) (hk : 40 ≤ k) : ∃ L, carillonlaw06_rising.f k l = some L ∧ risesR 0 L ∧ L.length ≤ 30 := by
  unfold carillonlaw06_rising.f
  exact rising_loop l hl hw (min l.length 30) 0 k [] 0 (by omega) (by omega) (by simp) trivial (by simp) (by omega) (by omega)
def endsV : Nat → List SR → List Int
  | _, [] => []
  | u, r :: l => ((u + lenR r : Nat) : Int) :: endsV (u + lenR r) l
theorem endsV_len : ∀ (u : Nat) (l : List SR), (endsV u l).length = l.length
  | _, [] => rfl
  | u, r :: l => by show (endsV (u + lenR r) l).length + 1 = l.length + 1; rw [endsV_len]
theorem endsV_get : ∀ (l : List SR) (u i : Nat) (h : i < l.length), (endsV u l).getD i 0 = ((u + flenR (l.take (i + 1)) : Nat) : Int)
  | [], u, i => fun h => absurd h (by simp)
  | r :: l, u, 0 => fun _ => by show ((u + lenR r : Nat) : Int) = ((u + (lenR r + flenR []) : Nat) : Int); rfl
  | r :: l, u, i + 1 => fun h => by
    show (endsV (u + lenR r) l).getD i 0 = ((u + (lenR r + flenR (l.take (i + 1))) : Nat) : Int)
    rw [endsV_get l (u + lenR r) i (by simpa using h), Nat.add_assoc]
theorem flenR_le : ∀ (l : List SR), (∀ x ∈ l, RecP x) → flenR l ≤ 1156 * l.length
  | [], _ => Nat.le_refl _
  | r :: l, h => by
    have := lenR_le (h r (List.mem_cons_self ..))
    have := flenR_le l (fun x hx => h x (List.mem_cons_of_mem _ hx))
    simp only [flenR, List.length_cons]
    omega
theorem written_loop (l : List SR) (hl : l.length ≤ 30) (hp : ∀ x ∈ l, RecP x) (d : Nat) : ∀ (i k u : Nat) (s : ByteArray) (e : List Int), i + d = l.length → d + 1020 < k → s.size = u → u ≤ 1156 * i → e.length = i →
    ∃ s', carillonlaw06_written.l0 k l s e (i : Int) = some (s', e ++ endsV u (l.drop i)) ∧ ls s' = ls s ++ framesR (l.drop i) := by
  induction d with
  | zero =>
    intro i k u s e hi hk hs hu he
    obtain ⟨k, rfl⟩ : ∃ m, k = m + 1 := ⟨k - 1, by omega⟩
    refine ⟨s, ?_, ?_⟩
    · simp only [carillonlaw06_written.l0]
      rw [if_neg (by omega), List.drop_of_length_le (by omega)]
      simp [endsV]
    · rw [List.drop_of_length_le (by omega)]
      simp [framesR]
  | succ d ih =>
    intro i k u s e hi hk hs hu he
    obtain ⟨k, rfl⟩ : ∃ m, k = m + 1 := ⟨k - 1, by omega⟩
    have hlt : i < l.length := by omega
    have ew : wrap64 ((i : Int) + 1) = ((i + 1 : Nat) : Int) := by unfold wrap64; omega
    have hrd : rd_T23 l (i : Int) = l[i] := by
      unfold rd_T23
      rw [show ((i : Int)).toNat = i from rfl, List.getD_eq_getElem?_getD, List.getElem?_eq_getElem hlt]
      rfl
    have hpi := hp l[i] (List.getElem_mem hlt)
    have hfs : (frame (recB l[i])).size = lenR l[i] := by rw [frame_size]; rfl
    have hle := lenR_le hpi
    simp only [carillonlaw06_written.l0]
    rw [if_pos (by omega), if_pos (by omega), hrd, sone_is l[i] k (by omega), if_pos hpi]
    simp only [Option.bind_some]
    rw [if_pos (by omega), if_pos (by omega), hfs, ew, hs]
    obtain ⟨s', h1, h2⟩ := ih (i + 1) k (u + lenR l[i]) (s ++ frame (recB l[i])) (e ++ [((u : Nat) : Int) + ((lenR l[i] : Nat) : Int)]) (by omega) (by omega) (by rw [ByteArray.size_append, hfs, hs]) (by omega) (by rw [List.length_append]; simp; omega)
    refine ⟨s', ?_, ?_⟩
    · rw [h1, List.drop_eq_getElem_cons hlt, List.append_assoc]
      simp [endsV]
    · rw [h2, ls_append, frame_ls, List.drop_eq_getElem_cons hlt, List.append_assoc]
      rfl
theorem written_is (l : List SR) (hl : l.length ≤ 30) (hp : ∀ x ∈ l, RecP x) (k : Nat) (hk : 1060 ≤ k) : ∃ s, carillonlaw06_written.f k l = some (s, endsV 0 l) ∧ ls s = framesR l ∧ s.size = flenR l ∧ s.size ≤ 34680 := by
  unfold carillonlaw06_written.f
  obtain ⟨s, h1, h2⟩ := written_loop l hl hp l.length 0 k 0 ⟨#[]⟩ [] (by omega) (by omega) rfl (by omega) rfl
  rw [List.drop_zero, List.nil_append] at h1
  have h2' : ls s = framesR l := by rw [h2, List.drop_zero]; rfl
  have hsz : s.size = flenR l := by rw [← ls_len, h2', framesR_len]
  have := flenR_le l hp
  exact ⟨s, h1, h2', hsz, by omega⟩
/-- A beginning of written records. -/
theorem scan_cut {s : ByteArray} {l : List SR} (h : ls s = framesR l) (hr : risesR 0 l) (c w : Nat) (hw : w ≤ l.length) (h1 : flenR (l.take w) ≤ c) (h2 : w < l.length → c < flenR (l.take (w + 1))) (hc : c ≤ s.size) (n : Nat) (hn : s.size < n) :
    scanV (s.extract 0 c) n 0 0 = (posR 0 (l.take w), flenR (l.take w), if c = flenR (l.take w) then 0 else 2) := by
  have hsz : (s.extract 0 c).size = c := by rw [ByteArray.size_extract]; omega
  have hlen := congrArg List.length h
  rw [ls_len, framesR_len] at hlen
  have hrt : risesR 0 (l.take w) := by
    have : ∀ (l : List SR) (a : Int) (w : Nat), risesR a l → risesR a (l.take w) := by
      intro l
      induction l with
      | nil => intro a w _; rw [List.take_nil]; trivial
      | cons r l ih =>
        intro a w h
        cases w with
        | zero => trivial
        | succ w => exact ⟨h.1, h.2.1, ih _ w h.2.2⟩
    exact this l 0 w hr
  have hls : ls (s.extract 0 c) = framesR (l.take w) ++ (framesR (l.drop w)).take (c - flenR (l.take w)) := by
    rw [ls_extract, List.drop_zero, Nat.sub_zero, h]
    conv => lhs; rw [← List.take_append_drop w l, framesR_append]
    rw [List.take_append, framesR_len, List.take_of_length_le (by rw [framesR_len]; exact h1)]
  by_cases e : c = flenR (l.take w)
  · rw [if_pos e]
    rw [show c - flenR (l.take w) = 0 by omega, List.take_zero, List.append_nil] at hls
    rw [scan_all hls hrt n (by omega), hsz, ← e]
  · rw [if_neg e]
    have hwl : w < l.length := by
      by_cases g : w < l.length
      · exact g
      · rw [List.take_of_length_le (by omega)] at h1 e
        omega
    have hc2 := h2 hwl
    rw [List.take_succ_eq_append_getElem hwl, flenR_append] at hc2
    have hc3 : c < flenR (l.take w) + lenR l[w] := hc2
    have hd : framesR (l.drop w) = frR l[w] ++ framesR (l.drop (w + 1)) := by rw [List.drop_eq_getElem_cons hwl]; rfl
    have hpw : RecP l[w] := (risesR_ge hr l[w] (List.getElem_mem hwl)).2
    have hb := recB_le hpw
    have ht : (framesR (l.drop w)).take (c - flenR (l.take w)) = (frR l[w]).take (c - flenR (l.take w)) := by
      rw [hd, List.take_append_of_le_length (by rw [frR_len]; omega)]
    rw [ht] at hls
    have htl : ((frR l[w]).take (c - flenR (l.take w))).length = c - flenR (l.take w) := by rw [List.length_take, frR_len]; omega
    refine scan_upto hls hrt (by rw [htl]; omega) (by decide) (fun x hx => ?_) n (by omega)
    have hxs : x.size = c - flenR (l.take w) := by rw [← ls_len, hx, htl]
    rw [take_torn (recB l[w]) (by omega) x [] ((frR l[w]).drop (c - flenR (l.take w))) (by rw [hx, List.take_append_drop, List.append_nil]; rfl) (by rw [hxs]; have : lenR l[w] = (recB l[w]).size + 8 := rfl; omega)]
end Go.Proofs.YtmjgifhgodgghaaDoor.P
