/- The law FlushHolds, over plain functions. -/
import Derived.Test.YtokebimfflobbaaDoorKinds
import Derived.OpenShut
import Derived.Test.YtokebimfflobbaaDoorPlainM
import Derived.Test.YtokebimfflobbaaDoorPx11
namespace Go.Proofs.YtokebimfflobbaaDoor.P
open Go.RowKit Go.Proofs.YtokebimfflobbaaDoorW.PrintWords
set_option linter.unusedVariables false
set_option linter.unusedSimpArgs false
set_option maxRecDepth 100000
def carillonlaw19_FlushHolds.Pure : Prop := ∀ (x0 : List ByteArray) (x1 : List Int), (fun l : List ByteArray => ∀ a ∈ l, (fun s : ByteArray => s.size ≤ maxLen) a) x0 → (∀ n ∈ (fun l : List ByteArray => l.length * 16 :: l.flatMap (fun s : ByteArray => [s.size])) x0, n ≤ 140737488351232) → (fun l : List Int => ∀ a ∈ l, (fun n : Int => (Lit.int .i64 n).wf = true) a) x1 → (∀ n ∈ (fun l : List Int => l.length * 8 :: l.flatMap (fun _ : Int => ([] : List Nat))) x1, n ≤ 140737488351232) → ∃ k, carillonlaw19_FlushHolds.f k x0 x1 = some true
def hdN (L : Nat) (a : Int) : Nat := (if a < 0 then -(a + 1) else a).toNat % (L + 1)
theorem hdN_le (L : Nat) (a : Int) : hdN L a ≤ L := by
  unfold hdN
  have := Nat.mod_lt ((if a < 0 then -(a + 1) else a).toNat) (show 0 < L + 1 by omega)
  omega
theorem hdN_neg (L : Nat) (hL : L ≤ 8796093022207) (a : Int) (h : a < 0) (h1 : -9223372036854775808 ≤ a) : Int.tmod (wrap64 (-(wrap64 (a + 1)))) (wrap64 ((L : Int) + 1)) = (hdN L a : Int) := by
  rw [show wrap64 (a + 1) = a + 1 by (rw [wr_id] <;> omega), show wrap64 (-(a + 1)) = -(a + 1) by (rw [wr_id] <;> omega), show wrap64 ((L : Int) + 1) = ((L + 1 : Nat) : Int) by (rw [wr_id] <;> omega)]
  unfold hdN
  rw [if_pos h, Int.tmod_eq_emod_of_nonneg (by omega), Int.natCast_emod, Int.toNat_of_nonneg (by omega)]
theorem hdN_pos (L : Nat) (hL : L ≤ 8796093022207) (a : Int) (h : ¬ a < 0) : Int.tmod a (wrap64 ((L : Int) + 1)) = (hdN L a : Int) := by
  rw [show wrap64 ((L : Int) + 1) = ((L + 1 : Nat) : Int) by (rw [wr_id] <;> omega)]
  unfold hdN
  rw [if_neg h, Int.tmod_eq_emod_of_nonneg (by omega), Int.natCast_emod, Int.toNat_of_nonneg (by omega)]
theorem rdL_take (log : List ByteArray) (cs : List Nat) (i : Nat) (hi : i < cs.length) : rd_L1 (cs.map fun c => log.take c) (i : Int) = log.take (cs.getD i 0) := by
  show (cs.map fun c => log.take c).getD i [] = _
  rw [List.getD_eq_getElem?_getD, List.getElem?_map, List.getD_eq_getElem?_getD, List.getElem?_eq_getElem hi]
  rfl
theorem holds1 (log : List ByteArray) (hL : log.length ≤ 8796093022207) (cs : List Nat) (hn : cs.length ≤ 20) (hcs : ∀ c ∈ cs, c ≤ log.length) (m : Nat) (hm : m ≤ log.length) (hle : ∀ c ∈ cs, c ≤ m) (d : Nat) : ∀ (i k : Nat) (x : Bool), i + d = cs.length → log.length + d + 1 < k → (x = true ∨ ∃ q, i ≤ q ∧ q < cs.length ∧ cs.getD q 0 = m) →
    carillonlaw19_FlushHolds.l1 k true (cs.map fun c => log.take c) (log.take m) 0 x (i : Int) = some true := by
  induction d with
  | zero =>
    intro i k x hi hk hx
    obtain ⟨k, rfl⟩ : ∃ q, k = q + 1 := ⟨k - 1, by omega⟩
    simp only [carillonlaw19_FlushHolds.l1]
    rw [if_neg (by rw [List.length_map]; omega), if_pos trivial, if_pos trivial]
    rcases hx with rfl | ⟨q, h1, h2, _⟩
    · rfl
    · omega
  | succ d ih =>
    intro i k x hi hk hx
    obtain ⟨k, rfl⟩ : ∃ q, k = q + 1 := ⟨k - 1, by omega⟩
    have hc : cs.getD i 0 ∈ cs := by
      rw [List.getD_eq_getElem?_getD, List.getElem?_eq_getElem (by omega)]
      exact List.getElem_mem _
    have h1 := hcs _ hc
    have h2 := hle _ hc
    have hlen : (log.take (cs.getD i 0)).length = cs.getD i 0 := by rw [List.length_take]; omega
    have hcm : cmn (log.take (cs.getD i 0)) (log.take m) = cs.getD i 0 := by rw [cmn_takes log _ m h1 hm]; omega
    have ew : wrap64 ((i : Int) + 1) = ((i + 1 : Nat) : Int) := by rw [wr_id] <;> omega
    simp only [carillonlaw19_FlushHolds.l1]
    rw [if_pos (by rw [List.length_map]; omega), if_pos (by omega), rdL_take log cs i (by omega), prefix_is _ _ (by omega) k (by omega), common_is _ _ (by omega) k (by omega), hcm, hlen, ew]
    simp only [Option.bind_some, decide_true, if_true]
    cases x with
    | true =>
      rw [if_pos rfl]
      exact ih (i + 1) k true (by omega) (by omega) (.inl rfl)
    | false =>
      rw [if_neg (by decide)]
      refine ih (i + 1) k _ (by omega) (by omega) ?_
      rcases hx with hx | ⟨q, q1, q2, q3⟩
      · cases hx
      · by_cases hq : q = i
        · left
          rw [hq] at q3
          rw [q3, List.length_take, Nat.min_eq_left hm]
          simp
        · exact .inr ⟨q, by omega, q2, q3⟩
theorem holdsR (log : List ByteArray) (hL : log.length ≤ 8796093022207) (cs : List Nat) (hn : cs.length ≤ 20) (hcs : ∀ c ∈ cs, c ≤ log.length) (k : Nat) (hk : 8796093022207 + 60 < k) :
    ((flush_Longest.f k (cs.map fun c => log.take c)).bind fun bt => (if ((cs.map fun c => log.take c).length : Int) = 0 then (if true = true then (some (bt.2 == 1)) else (some false)) else (carillonlaw19_FlushHolds.l1 k true (cs.map fun c => log.take c) bt.1 bt.2 false 0))) = some true := by
  rw [longest_is 8796093022207 (Nat.le_refl _) _ (by
    intro x hx
    obtain ⟨c, _, rfl⟩ := List.mem_map.1 hx
    rw [List.length_take]
    omega) (by rw [List.length_map]; omega) k (by rw [List.length_map]; omega)]
  simp only [Option.bind_some]
  cases cs with
  | nil => rfl
  | cons c r =>
    rw [if_neg (by simp; omega)]
    have hc := hcs c (List.mem_cons_self ..)
    have hr := fun d hd => hcs d (List.mem_cons_of_mem c hd)
    obtain ⟨g1, g2, g3⟩ := top_ge r c
    have hlng := lng_takes log r c hc hr
    have hS : lngS ((c :: r).map fun c => log.take c) = (log.take (top c r), 0) := by
      simp only [List.map_cons, lngS]
      rw [hlng]
    rw [hS]
    have hmem : top c r ∈ c :: r := by
      rcases g3 with h | h
      · rw [h]; exact List.mem_cons_self ..
      · exact List.mem_cons_of_mem _ h
    refine holds1 log hL (c :: r) hn hcs (top c r) (hcs _ hmem) (fun d hd => ?_) (c :: r).length 0 k false (by omega) (by omega) (.inr ?_)
    · rcases List.mem_cons.1 hd with rfl | hd
      · exact g1
      · exact g2 d hd
    · obtain ⟨q, hq, he⟩ := List.mem_iff_getElem.1 hmem
      exact ⟨q, by omega, hq, by rw [List.getD_eq_getElem?_getD, List.getElem?_eq_getElem hq, he]; rfl⟩
theorem holds0 (log : List ByteArray) (hL : log.length ≤ 8796093022207) (cuts : List Int) (hc : cuts.length ≤ 4611686018427387904) (hb : ∀ a ∈ cuts, -9223372036854775808 ≤ a ∧ a ≤ 9223372036854775807) (K : Nat) (hK : 8796093022207 + 61 ≤ K) (d : Nat) : ∀ (i k : Nat) (cs : List Nat), i + d = min cuts.length 20 → cs.length = i → (∀ c ∈ cs, c ≤ log.length) → K + d < k →
    carillonlaw19_FlushHolds.l0 k log cuts true (cs.map fun c => log.take c) (i : Int) = some true := by
  induction d with
  | zero =>
    intro i k cs hi hl hcs hk
    obtain ⟨k, rfl⟩ : ∃ q, k = q + 1 := ⟨k - 1, by omega⟩
    simp only [carillonlaw19_FlushHolds.l0]
    by_cases h : (i : Int) < (cuts.length : Int)
    · rw [if_pos h, if_neg (by omega)]
      exact holdsR log hL cs (by omega) hcs k (by omega)
    · rw [if_neg h]
      exact holdsR log hL cs (by omega) hcs k (by omega)
  | succ d ih =>
    intro i k cs hi hl hcs hk
    obtain ⟨k, rfl⟩ : ∃ q, k = q + 1 := ⟨k - 1, by omega⟩
    have e1 : (i : Int) < (cuts.length : Int) := by omega
    have e2 : (i : Int) < 20 := by omega
    have e3 : (0 : Int) ≤ (i : Int) := by omega
    have e5 : cs.length < 5864062014805 := by omega
    have hmem : rd cuts (i : Int) ∈ cuts := by
      show cuts.getD i 0 ∈ cuts
      rw [List.getD_eq_getElem?_getD, List.getElem?_eq_getElem (by omega)]
      exact List.getElem_mem _
    obtain ⟨b1, b2⟩ := hb _ hmem
    generalize ha : rd cuts (i : Int) = a at *
    have hle := hdN_le log.length a
    have ew : wrap64 ((i : Int) + 1) = ((i + 1 : Nat) : Int) := by rw [wr_id] <;> omega
    have hw0 : ¬ wrap64 ((log.length : Int) + 1) = 0 := by rw [wr_id] <;> omega
    have g1 : i + 1 + d = min cuts.length 20 := by omega
    have g2 : (cs ++ [hdN log.length a]).length = i + 1 := by rw [List.length_append, hl]; rfl
    have g3 : ∀ c ∈ cs ++ [hdN log.length a], c ≤ log.length := by
      intro c hc
      rcases List.mem_append.1 hc with hc | hc
      · exact hcs c hc
      · rw [List.mem_singleton.1 hc]; exact hle
    have g4 : K + d < k := Nat.lt_of_succ_lt_succ hk
    have go := ih (i + 1) k (cs ++ [hdN log.length a]) g1 g2 g3 g4
    clear g1 g2 g3 g4 ih
    rw [List.map_append, List.map_cons, List.map_nil] at go
    simp only [carillonlaw19_FlushHolds.l0]
    rw [show rd cuts (i : Int) = a from ha, if_pos e1, if_pos e2, if_pos e3]
    by_cases hs : a < 0
    · rw [if_pos hs, if_neg hw0, hdN_neg log.length hL a hs b1, if_pos (Int.natCast_nonneg _), if_pos (Int.ofNat_le.mpr hle), if_pos (by rw [List.length_map]; exact e5), Int.toNat_natCast, ew]
      exact go
    · rw [if_neg hs, if_neg hw0, hdN_pos log.length hL a hs, if_pos (Int.natCast_nonneg _), if_pos (Int.ofNat_le.mpr hle), if_pos (by rw [List.length_map]; exact e5), Int.toNat_natCast, ew]
      exact go
theorem holds_all (log : List ByteArray) (hL : log.length ≤ 8796093022207) (cuts : List Int) (hc : cuts.length ≤ 4611686018427387904) (hb : ∀ a ∈ cuts, -9223372036854775808 ≤ a ∧ a ≤ 9223372036854775807) (k : Nat) (hk : 8796093022207 + 90 < k) : carillonlaw19_FlushHolds.f k log cuts = some true := by
  unfold carillonlaw19_FlushHolds.f
  rw [show carillonlaw19_examples.f = some true from rfl]
  simp only [Option.bind_some]
  have h := holds0 log hL cuts hc hb (8796093022207 + 61) (Nat.le_refl _) (min cuts.length 20) 0 k [] (by omega) rfl (by intro c h; cases h) (by omega)
  exact h
theorem FlushHolds : carillonlaw19_FlushHolds.Pure := by
  intro log cuts _ hnl hwf hnc
  have h1 := hnl (log.length * 16) (List.mem_cons_self ..)
  have h2 := hnc (cuts.length * 8) (List.mem_cons_self ..)
  obtain ⟨k, hk⟩ : ∃ k, k = 8796093022207 + 91 := ⟨_, rfl⟩
  exact ⟨k, holds_all log (by omega) cuts (by omega) (fun a ha => by have := bounds_i64 (hwf a ha); omega) k (by omega)⟩
end Go.Proofs.YtokebimfflobbaaDoor.P
