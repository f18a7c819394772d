/- Of a beginning of frames those that are all there are told; no torn one is taken for another one: the plain statement. -/
import Derived.Test.YtkcooehlahifkaaDoorKinds
import Derived.Test.YtkcooehlahifkaaDoorPx4
import Derived.Test.YtkcooehlahifkaaDoorPlainE
namespace Go.Proofs.YtkcooehlahifkaaDoor.P
open Go.RowKit Go.Proofs.YtkcooehlahifkaaDoorW.PrintWords
set_option linter.unusedVariables false
def carillonlaw02_CrcTorn.Pure : Prop := ∀ (x0 : List ByteArray) (x1 : Int), (fun l : List ByteArray => ∀ a ∈ l, (fun s : ByteArray => s.size ≤ maxLen) a) x0 → (∀ n ∈ (fun l : List ByteArray => l.length * 16 :: l.flatMap (fun s : ByteArray => [s.size])) x0, n ≤ 140737488351232) → (Lit.int .i64 x1).wf = true → ∃ k, carillonlaw02_CrcTorn.f k x0 x1 = some true
/-- Where the w-th frame ends. -/
def endOf (l : List ByteArray) (w : Nat) : Nat := (framesL (l.take w)).length
theorem framesL_snoc2 (l : List ByteArray) (b : ByteArray) : framesL (l ++ [b]) = framesL l ++ frameL (ls b) := by
  rw [framesL_append, framesL, framesL, List.append_nil]
theorem take_snoc2 (l : List ByteArray) (w : Nat) (h : w < l.length) : l.take (w + 1) = l.take w ++ [l.getD w ByteArray.empty] := by
  have hget : l[w]? = some (l.getD w ByteArray.empty) := by rw [List.getD_eq_getElem?_getD, List.getElem?_eq_getElem h]; rfl
  rw [List.take_add_one, hget]
  rfl
theorem endOf_succ (l : List ByteArray) (w : Nat) (h : w < l.length) : endOf l (w + 1) = endOf l w + ((l.getD w ByteArray.empty).size + 8) := by
  unfold endOf
  rw [take_snoc2 l w h, framesL_snoc2, List.length_append, frameL_len, ls_len]
def endsOf (l : List ByteArray) (n : Nat) : List Int := (List.range n).map fun i => ((endOf l (i + 1) : Nat) : Int)
theorem endsOf_len (l : List ByteArray) (n : Nat) : (endsOf l n).length = n := by simp [endsOf]
theorem endsOf_succ (l : List ByteArray) (n : Nat) : endsOf l (n + 1) = endsOf l n ++ [((endOf l (n + 1) : Nat) : Int)] := by simp [endsOf, List.range_succ]
theorem rd_ends (l : List ByteArray) (n i : Nat) (h : i < n) : rd (endsOf l n) (i : Int) = ((endOf l (i + 1) : Nat) : Int) := by
  unfold rd endsOf
  rw [show ((i : Int)).toNat = i from rfl, List.getD_eq_getElem?_getD, List.getElem?_map, List.getElem?_range h]
  rfl
/-- What is told of a beginning: the frames that are all there. -/
theorem all_cut (x0 : List ByteArray) (n : Nat) (hn : n ≤ 50) (hnl : n ≤ x0.length) (hb : ∀ b ∈ x0.take n, b.size ≤ 400000) (s : ByteArray) (hs : ls s = framesL (x0.take n)) (hz : s.size ≤ 400008 * 50) (c w : Nat) (hc : c ≤ s.size)
    (hw : w ≤ n) (hlo : endOf x0 w ≤ c) (hhi : w = n ∨ c < endOf x0 (w + 1)) (k : Nat) (hk : 60 ≤ k) :
    ∃ e : Int, crc_All.f k (s.extract 0 c) = some (x0.take w, ((endOf x0 w : Nat) : Int), e) ∧ (endOf x0 w = c ∧ e = 0 ∨ endOf x0 w ≠ c ∧ e = 2) := by
  have hq : (s.extract 0 c).size = c := by rw [← ls_len, ls_extract, List.length_take, List.length_drop, ls_len]; omega
  have hql : ls (s.extract 0 c) = (ls s).take c := by rw [ls_extract, List.drop_zero, Nat.sub_zero]
  have hsplit : x0.take n = x0.take w ++ (x0.take n).drop w := by
    have h1 : (x0.take n).take w = x0.take w := by rw [List.take_take, Nat.min_eq_left hw]
    rw [← h1, List.take_append_drop]
  have hf : ls s = framesL (x0.take w) ++ framesL ((x0.take n).drop w) := by
    have h2 := congrArg framesL hsplit
    rw [framesL_append] at h2
    rw [hs, h2]
  have hE : (framesL (x0.take w)).length = endOf x0 w := rfl
  have hcut : ls (s.extract 0 c) = framesL (x0.take w) ++ (framesL ((x0.take n).drop w)).take (c - endOf x0 w) := by
    rw [hql, hf, List.take_append, hE, List.take_of_length_le (by rw [hE]; exact hlo)]
  have hsz : s.size = endOf x0 w + (framesL ((x0.take n).drop w)).length := by rw [← ls_len, hf, List.length_append, hE]
  have hlw : (x0.take w).length = w := by rw [List.length_take]; omega
  have hbw : ∀ b ∈ x0.take w, b.size ≤ 400000 := fun b h => hb b (by rw [hsplit]; exact List.mem_append_left _ h)
  by_cases he : endOf x0 w = c
  · refine ⟨0, ?_, Or.inl ⟨he, rfl⟩⟩
    have hr : (framesL ((x0.take n).drop w)).take (c - endOf x0 w) = [] := by rw [he, Nat.sub_self, List.take_zero]
    rw [hr, List.append_nil] at hcut
    have h := all_frames (s.extract 0 c) (by omega) (x0.take w) 0 k [] 0 [] hbw (by rw [List.drop_zero, hcut, List.append_nil]) (by omega) (by omega) (by rw [List.length_nil]; omega) (Or.inl ⟨rfl, rfl⟩)
    rw [List.nil_append, List.length_nil, Nat.sub_zero, hq, ← he] at h
    rw [← he]
    exact h
  · refine ⟨2, ?_, Or.inr ⟨he, rfl⟩⟩
    have hwn : w < n := by
      by_cases h : w = n
      · exfalso
        apply he
        have : (x0.take n).drop w = [] := by rw [h]; exact List.drop_of_length_le (by rw [List.length_take]; omega)
        rw [this] at hsz
        simp only [framesL, List.length_nil] at hsz
        omega
      · omega
    have hlt : c < endOf x0 (w + 1) := by
      rcases hhi with h | h
      · omega
      · exact h
    rw [endOf_succ x0 w (by omega)] at hlt
    generalize hbv : x0.getD w ByteArray.empty = b at hlt
    have hdrop : (x0.take n).drop w = b :: (x0.take n).drop (w + 1) := by
      rw [List.drop_eq_getElem_cons (by rw [List.length_take]; omega)]
      congr 1
      rw [← hbv, List.getD_eq_getElem?_getD, List.getElem_take, List.getElem?_eq_getElem (by omega)]
      rfl
    have hb0 : b.size ≤ 400000 := hb b (by rw [hsplit, hdrop]; exact List.mem_append_right _ List.mem_cons_self)
    generalize hrest : (framesL ((x0.take n).drop w)).take (c - endOf x0 w) = r at hcut
    have hrl : r.length = c - endOf x0 w := by rw [← hrest, List.length_take]; omega
    have htorn : ∀ q : ByteArray, ls q = r → takeV q = (⟨#[]⟩, 0, 2) := by
      intro q hqr
      refine take_torn b hb0 q (framesL ((x0.take n).drop (w + 1))) ((framesL ((x0.take n).drop w)).drop (c - endOf x0 w)) ?_ ?_
      · rw [hqr, ← hrest, List.take_append_drop, hdrop, framesL]
      · rw [← ls_len, hqr, hrl]
        omega
    have h := all_frames (s.extract 0 c) (by omega) (x0.take w) 0 k [] 2 r hbw (by rw [List.drop_zero, hcut]) (by omega) (by omega) (by rw [List.length_nil]; omega) (Or.inr ⟨fun h0 => by rw [h0, List.length_nil] at hrl; omega, by decide, htorn⟩)
    rw [List.nil_append, hq, hrl, show c - (c - endOf x0 w) = endOf x0 w by omega] at h
    exact h
theorem torn_end (x0 : List ByteArray) (n : Nat) (hn : n ≤ 50) (hnl : n ≤ x0.length) (hxl : x0.length ≤ 8796093022000) (hb : ∀ b ∈ x0.take n, b.size ≤ 400000) (s : ByteArray) (hs : ls s = framesL (x0.take n)) (hz : s.size ≤ 400008 * 50) (c w : Nat) (hc : c ≤ s.size)
    (hw : w ≤ n) (hlo : endOf x0 w ≤ c) (hhi : w = n ∨ c < endOf x0 (w + 1)) (k : Nat) (hk : 60 ≤ k) :
    carillonlaw02_CrcTorn.j4 (k + 1) x0 (c : Int) true s (endsOf x0 n) (w : Int) = some true := by
  obtain ⟨e, ha, he⟩ := all_cut x0 n hn hnl hb s hs hz c w hc hw hlo hhi k hk
  have ht : carillonlaw02_texts.f k (x0.take w) (x0.take w) = some true := texts_refl _ (by rw [List.length_take]; omega) k (by rw [List.length_take]; omega)
  have hlen : (endsOf x0 n).length = n := endsOf_len x0 n
  have hcond : ((e == 0) == (((endOf x0 w : Nat) : Int) == (c : Int))) = true ∧ (e = 0 ∨ e = 2) := by
    rcases he with ⟨h1, h2⟩ | ⟨h1, h2⟩
    · rw [h1, h2]
      simp
    · have : (((endOf x0 w : Nat) : Int) == (c : Int)) = false := by rw [beq_eq_false_iff_ne]; omega
      rw [h2, this]
      decide
  rw [carillonlaw02_CrcTorn.j4]
  by_cases h0 : (w : Int) > 0
  · obtain ⟨v, rfl⟩ : ∃ v, w = v + 1 := ⟨w - 1, by omega⟩
    have hw1 : wrap64 (((v + 1 : Nat) : Int) - 1) = ((v : Nat) : Int) := by unfold wrap64; omega
    rw [if_pos h0, hw1, if_pos (by omega), if_pos (by omega), if_pos (by omega), if_pos (by omega), show ((c : Int)).toNat = c from rfl, ha, Option.bind_some, if_pos (by omega), if_pos (by omega)]
    rw [show (((v + 1 : Nat) : Int)).toNat = v + 1 from rfl]
    show (carillonlaw02_texts.f k (x0.take (v + 1)) (x0.take (v + 1))).bind _ = _
    rw [ht, Option.bind_some, if_pos rfl, if_pos rfl, rd_ends x0 n v (by omega), if_pos rfl, if_pos hcond.1]
    rcases hcond.2 with h | h
    · rw [if_pos h]
    · rw [if_neg (by show ¬ e = 0; omega)]
      show some (e == 2) = _
      rw [h]
      rfl
  · obtain rfl : w = 0 := by omega
    have hE0 : endOf x0 0 = 0 := rfl
    rw [hE0] at ha hcond
    rw [if_neg h0, if_pos (by omega), if_pos (by omega), show ((c : Int)).toNat = c from rfl, ha, Option.bind_some, if_pos (by omega), if_pos (by omega)]
    show (carillonlaw02_texts.f k (x0.take 0) (x0.take 0)).bind _ = _
    rw [ht, Option.bind_some, if_pos rfl, if_pos rfl]
    show (if ((0 : Nat) : Int) = 0 then (if ((e == 0) == (((0 : Nat) : Int) == (c : Int))) = true then (if e = 0 then some true else some (e == 2)) else some false) else some false) = _
    rw [if_pos (show ((0 : Nat) : Int) = 0 from rfl), if_pos hcond.1]
    rcases hcond.2 with h | h
    · rw [if_pos h]
    · rw [if_neg (by show ¬ e = 0; omega)]
      show some (e == 2) = _
      rw [h]
      rfl
theorem torn_loop (x0 : List ByteArray) (n : Nat) (hn : n ≤ 50) (hnl : n ≤ x0.length) (hxl : x0.length ≤ 8796093022000) (hb : ∀ b ∈ x0.take n, b.size ≤ 400000) (s : ByteArray) (hs : ls s = framesL (x0.take n)) (hz : s.size ≤ 400008 * 50) (c : Nat) (hc : c ≤ s.size) (d : Nat) :
    ∀ (w : Nat), w + d = n → endOf x0 w ≤ c → carillonlaw02_CrcTorn.l1 (62 + d) x0 (c : Int) true s (endsOf x0 n) (w : Int) = some true := by
  have hlen : (endsOf x0 n).length = n := endsOf_len x0 n
  induction d with
  | zero =>
    intro w hw hlo
    rw [show 62 + 0 = (60 + 1) + 1 by omega, carillonlaw02_CrcTorn.l1, if_neg (by omega)]
    exact torn_end x0 n hn hnl hxl hb s hs hz c w hc (by omega) hlo (Or.inl (by omega)) 60 (by omega)
  | succ d ih =>
    intro w hw hlo
    rw [show 62 + (d + 1) = (61 + d + 1) + 1 by omega, carillonlaw02_CrcTorn.l1, if_pos (by omega), if_pos (by omega), rd_ends x0 n w (by omega)]
    by_cases h : endOf x0 (w + 1) ≤ c
    · have hw1 : wrap64 ((w : Int) + 1) = ((w + 1 : Nat) : Int) := by unfold wrap64; omega
      rw [if_pos (by omega), hw1, show 61 + d + 1 = 62 + d by omega]
      exact ih (w + 1) (by omega) h
    · rw [if_neg (by omega)]
      exact torn_end x0 n hn hnl hxl hb s hs hz c w hc (by omega) hlo (Or.inr (by omega)) (61 + d) (by omega)
theorem torn_cut (x0 : List ByteArray) (x1 : Int) (hx : -9223372036854775808 ≤ x1 ∧ x1 ≤ 9223372036854775807) (n : Nat) (hn : n ≤ 50) (hnl : n ≤ x0.length) (hxl : x0.length ≤ 8796093022000) (hb : ∀ b ∈ x0.take n, b.size ≤ 400000) (s : ByteArray) (hs : ls s = framesL (x0.take n)) (hz : s.size ≤ 400008 * 50) (x8 : Int) :
    carillonlaw02_CrcTorn.j1 (64 + n) x0 x1 true s (endsOf x0 n) x8 false = some true := by
  have two : ∀ y : Int, 0 ≤ y → carillonlaw02_CrcTorn.j2 (63 + n) x0 y true s (endsOf x0 n) = some true := by
    intro y hy
    have hm : wrap64 ((s.size : Int) + 1) = ((s.size + 1 : Nat) : Int) := by unfold wrap64; omega
    rw [show 63 + n = (62 + n) + 1 by omega, carillonlaw02_CrcTorn.j2, hm, if_neg (by omega)]
    obtain ⟨v, rfl⟩ : ∃ v : Nat, y = (v : Int) := ⟨y.toNat, by omega⟩
    have ht : Int.tmod (v : Int) ((s.size + 1 : Nat) : Int) = ((v % (s.size + 1) : Nat) : Int) := by rw [Int.tmod_eq_emod_of_nonneg (by omega)]; rfl
    have hlt : v % (s.size + 1) < s.size + 1 := Nat.mod_lt _ (by omega)
    rw [ht]
    exact torn_loop x0 n hn hnl hxl hb s hs hz (v % (s.size + 1)) (by omega) n 0 (by omega) (Nat.zero_le _)
  rw [show 64 + n = (63 + n) + 1 by omega, carillonlaw02_CrcTorn.j1, if_neg (by decide)]
  by_cases h : x1 < 0
  · have h1 : wrap64 (x1 + 1) = x1 + 1 := by unfold wrap64; omega
    have h2 : wrap64 (-(x1 + 1)) = -(x1 + 1) := by unfold wrap64; omega
    rw [if_pos h, h1, h2]
    exact two _ (by omega)
  · rw [if_neg h]
    exact two _ (by omega)
theorem torn_build (x0 : List ByteArray) (x1 : Int) (hx : -9223372036854775808 ≤ x1 ∧ x1 ≤ 9223372036854775807) (hxl : x0.length ≤ 8796093022000) (d : Nat) : ∀ (i : Nat) (s : ByteArray), i + d = 50 → i ≤ x0.length → (∀ b ∈ x0.take i, b.size ≤ 400000) → ls s = framesL (x0.take i) → s.size ≤ 400008 * i →
    carillonlaw02_CrcTorn.l0 (116 + d + d) x0 x1 true s (endsOf x0 i) (i : Int) = some true := by
  have upj : ∀ (n m : Nat) (s : ByteArray) (y : List Int) (x8 : Int), carillonlaw02_CrcTorn.j1 (64 + n) x0 x1 true s y x8 false = some true → 64 + n ≤ m → carillonlaw02_CrcTorn.j1 m x0 x1 true s y x8 false = some true := by
    intro n m s y x8 h hm
    obtain ⟨q, rfl⟩ : ∃ q, m = 64 + n + q := ⟨m - (64 + n), by omega⟩
    clear hm
    induction q with
    | zero => exact h
    | succ q ihq => exact (carillonlaw02_CrcTorn.mono_l (64 + n + q)).2.1 _ _ _ _ _ _ _ _ ihq
  induction d with
  | zero =>
    intro i s hi hil hb hs hz
    rw [show 116 + 0 + 0 = 115 + 1 by omega, carillonlaw02_CrcTorn.l0]
    have hi50 : i ≤ 50 := by omega
    have hz50 : s.size ≤ 400008 * 50 := by omega
    have h50 : decide ((i : Int) < 50) = false := decide_eq_false (by omega)
    have hm : 64 + i ≤ 115 := by omega
    have h := upj i 115 s (endsOf x0 i) (i : Int) (torn_cut x0 x1 hx i hi50 hil hxl hb s hs hz50 _) hm
    rw [h50]
    by_cases hlt : (i : Int) < (x0.length : Int)
    · rw [if_pos hlt]; exact h
    · rw [if_neg hlt]; exact h
  | succ d ih =>
    intro i s hi hil hb hs hz
    rw [show 116 + (d + 1) + (d + 1) = (116 + d + d + 1) + 1 by omega, carillonlaw02_CrcTorn.l0]
    by_cases hlt : (i : Int) < (x0.length : Int)
    · have h50 : decide ((i : Int) < 50) = true := decide_eq_true (by omega)
      rw [if_pos hlt, h50, carillonlaw02_CrcTorn.j1, if_pos rfl, if_pos (by omega), if_pos hlt]
      rw [show rdOf ByteArray.empty x0 (i : Int) = x0.getD i ByteArray.empty from rfl]
      have ht := take_snoc2 x0 i (by omega)
      have hE := endOf_succ x0 i (by omega)
      have hEi : endOf x0 i = s.size := by rw [← ls_len, hs]; rfl
      generalize x0.getD i ByteArray.empty = b at *
      rw [frame_is, Option.bind_some]
      by_cases h : (b.size : Int) > 400000
      · rw [if_pos h]
        show (if (3 : Int) = 0 then _ else some true) = _
        rw [if_neg (by decide)]
      · rw [if_neg h]
        have hfz := frame_size b
        have hel : (endsOf x0 i).length = i := endsOf_len x0 i
        show (if (0 : Int) = 0 then (if s.size + (frame b).size ≤ 9223372036854775807 then (if (endsOf x0 i).length < 17592186044416 then carillonlaw02_CrcTorn.l0 (116 + d + d) x0 x1 true (s ++ frame b) (endsOf x0 i ++ [(s.size : Int) + ((frame b).size : Int)]) (wrap64 ((i : Int) + 1)) else none) else none) else _) = _
        rw [if_pos rfl, if_pos (by omega), if_pos (by omega)]
        have hw : wrap64 ((i : Int) + 1) = ((i + 1 : Nat) : Int) := by unfold wrap64; omega
        have hen : endsOf x0 i ++ [(s.size : Int) + ((frame b).size : Int)] = endsOf x0 (i + 1) := by
          rw [endsOf_succ, hE, hEi, hfz]
          rfl
        rw [hw, hen]
        clear hw hen
        refine ih (i + 1) (s ++ frame b) (by omega) (by omega) ?_ ?_ ?_
        · intro x hx2
          rw [ht] at hx2
          rcases List.mem_append.1 hx2 with hx2 | hx2
          · exact hb x hx2
          · rw [List.mem_singleton] at hx2
            rw [hx2]
            omega
        · rw [ls_append, hs, ht, framesL_snoc2, frame_ls]
        · rw [ByteArray.size_append]
          omega
    · rw [if_neg hlt]
      have hi50 : i ≤ 50 := by omega
      have hz50 : s.size ≤ 400008 * 50 := by omega
      have hm : 64 + i ≤ 116 + d + d + 1 := by omega
      exact upj i _ s (endsOf x0 i) (i : Int) (torn_cut x0 x1 hx i hi50 hil hxl hb s hs hz50 _) hm
theorem CrcTorn : carillonlaw02_CrcTorn.Pure := by
  intro x0 x1 _ hn hw
  have hl : x0.length * 16 ≤ 140737488351232 := hn _ List.mem_cons_self
  refine ⟨116 + 50 + 50, ?_⟩
  unfold carillonlaw02_CrcTorn.f carillonlaw02_examples.f
  rw [Option.bind_some]
  exact torn_build x0 x1 (bounds_i64 hw) (by omega) 50 0 _ (by omega) (by omega) (by simp) (by rw [List.take_zero]; rfl) (by show (0 : Nat) ≤ _; omega)
end Go.Proofs.YtkcooehlahifkaaDoor.P
