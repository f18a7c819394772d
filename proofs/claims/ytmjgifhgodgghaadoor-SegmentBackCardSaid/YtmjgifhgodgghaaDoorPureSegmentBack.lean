/- The law SegmentBack, over plain functions. -/
import Derived.Test.YtmjgifhgodgghaaDoorKinds
import Derived.Test.YtmjgifhgodgghaaDoorPlainT
import Derived.Test.YtmjgifhgodgghaaDoorPlainW
import Derived.Test.YtmjgifhgodgghaaDoorPx19
namespace Go.Proofs.YtmjgifhgodgghaaDoor.P
open Go.RowKit Go.Proofs.YtmjgifhgodgghaaDoorW.PrintWords
set_option linter.unusedVariables false
set_option linter.unusedSimpArgs false
set_option maxRecDepth 100000
def carillonlaw06_SegmentBack.Pure : Prop := ∀ (x0 : List S23) (x1 : Int), (fun l : List S23 => ∀ a ∈ l, wf23 a) x0 → (∀ n ∈ (fun l : List S23 => l.length * 64 :: l.flatMap lens23) x0, n ≤ 140737488351232) → (Lit.int .i64 x1).wf = true → ∃ k, carillonlaw06_SegmentBack.f k x0 x1 = some true
theorem back_loop (l : List SR) (hl : l.length ≤ 30) (s : ByteArray) (h : ls s = framesR l) (hs : s.size ≤ 34680) (hr : risesR 0 l) (c : Nat) (hc : c ≤ s.size) (d : Nat) : ∀ (w k : Nat), w + d = l.length → 50000 + d < k → flenR (l.take w) ≤ c →
    carillonlaw06_SegmentBack.l0 k l (c : Int) true s (endsV 0 l) (w : Int) = some true := by
  have hend : ∀ (w k : Nat), w ≤ l.length → 50000 ≤ k → flenR (l.take w) ≤ c → (w < l.length → c < flenR (l.take (w + 1))) → ∃ e : Int, (e = 0 ∨ e = 2) ∧ ((e == 0) = (((flenR (l.take w) : Nat) : Int) == (c : Int))) ∧ segment_Scan.f k 0 (s.extract 0 c) = some (l.take w, ((flenR (l.take w) : Nat) : Int), e) := by
    intro w k hw hk h1 h2
    have hsz : (s.extract 0 c).size = c := by rw [ByteArray.size_extract]; omega
    have hcut := scan_cut h hr c w hw h1 h2 hc (s.size + 1) (by omega)
    refine ⟨if c = flenR (l.take w) then 0 else 2, by split <;> simp, ?_, ?_⟩
    · by_cases e : c = flenR (l.take w)
      · rw [if_pos e, ← e]; simp
      · rw [if_neg e]
        have : ¬ (((flenR (l.take w) : Nat) : Int) = (c : Int)) := by omega
        simp [this]
    · rw [sscan_is _ 0 (by omega) k (by omega), hsz, scanV_more (s.extract 0 c) (c + 1) (s.size + 1) 0 0 (Nat.zero_le _) (by omega) (by omega), hcut, posR_fst]
  have fin : ∀ (w k : Nat), w ≤ l.length → 50000 ≤ k → flenR (l.take w) ≤ c → (w < l.length → c < flenR (l.take (w + 1))) → ((segment_Scan.f k 0 (s.extract 0 ((c : Int)).toNat)).bind fun bt468 => (if (w : Int) ≤ (l.length : Int) then ((carillonlaw06_records.f k bt468.1 (l.take ((w : Int)).toNat)).bind fun t477 => (if true = true then (if t477 = true then (if ((bt468.2.2 == 0) == (bt468.2.1 == (c : Int))) = true then (if bt468.2.2 = 0 then (some true) else (some (bt468.2.2 == 2))) else (some false)) else (some false)) else (some false))) else (none))) = some true := by
    intro w k hw hk h1 h2
    obtain ⟨e, he, hb, hsc⟩ := hend w k hw hk h1 h2
    rw [show ((c : Int)).toNat = c from rfl, show ((w : Int)).toNat = w from rfl, hsc]
    simp only [Option.bind_some]
    rw [if_pos (by omega), srecords_is _ (by rw [List.length_take]; omega) k (by rw [List.length_take]; omega)]
    simp only [Option.bind_some, if_true]
    rw [hb]
    rcases he with rfl | rfl
    · simp
    · simp
  induction d with
  | zero =>
    intro w k hi hk h1
    obtain ⟨k, rfl⟩ : ∃ m, k = m + 1 := ⟨k - 1, by omega⟩
    have hf := fin w k (by omega) (by omega) h1 (fun h => absurd h (by omega))
    simp only [carillonlaw06_SegmentBack.l0]
    rw [if_neg (by rw [endsV_len]; omega), if_pos (by omega), if_pos (by omega)]
    have h0 : (0 : Int) ≤ (w : Int) := by omega
    simpa only [h0, if_true] using hf
  | succ d ih =>
    intro w k hi hk h1
    obtain ⟨k, rfl⟩ : ∃ m, k = m + 1 := ⟨k - 1, by omega⟩
    have hlt : w < l.length := by omega
    have ew : wrap64 ((w : Int) + 1) = ((w + 1 : Nat) : Int) := by unfold wrap64; omega
    have hrd : rd (endsV 0 l) (w : Int) = ((flenR (l.take (w + 1)) : Nat) : Int) := by
      have := endsV_get l 0 w hlt
      rw [Nat.zero_add] at this
      exact this
    simp only [carillonlaw06_SegmentBack.l0]
    rw [if_pos (by rw [endsV_len]; omega), if_pos (by omega), hrd, ew]
    by_cases g : ((flenR (l.take (w + 1)) : Nat) : Int) ≤ (c : Int)
    · rw [if_pos g, ih (w + 1) k (by omega) (by omega) (by omega)]
    · rw [if_neg g, if_pos (by omega), if_pos (by omega)]
      have hf := fin w k (by omega) (by omega) h1 (fun _ => by omega)
      simpa only [if_true] using hf
theorem SegmentBack : carillonlaw06_SegmentBack.Pure := by
  intro x0 x1 hwf hn hw1
  obtain ⟨K, hK⟩ : ∃ K : Nat, 100000 ≤ K := ⟨100000, Nat.le_refl _⟩
  have h0 := hn _ (List.mem_cons_self ..)
  have hw := wf64 hw1
  obtain ⟨L, hL, hr, hl⟩ := rising_is x0 (by omega) (fun x hx => by
    have := hwf x hx
    unfold wf23 at this
    exact wf64 this.1) K (by omega)
  obtain ⟨s, hsw, hls, hsz, hs⟩ := written_is L hl (fun x hx => (risesR_ge hr x hx).2) K (by omega)
  refine ⟨K, ?_⟩
  have hb : ∀ c : Nat, c ≤ s.size → carillonlaw06_SegmentBack.l0 K L (c : Int) true s (endsV 0 L) 0 = some true := fun c hc => back_loop L hl s hls hs hr c hc L.length 0 K (by omega) (by omega) (Nat.zero_le _)
  unfold carillonlaw06_SegmentBack.f
  rw [show carillonlaw06_examples.f = some true from rfl, hL]
  simp only [Option.bind_some]
  rw [hsw]
  simp only [Option.bind_some]
  rw [sscan_is s 0 (by omega) _ (by omega), scan_all hls hr (s.size + 1) (by omega)]
  simp only [Option.bind_some]
  rw [posR_fst, srecords_is L (by omega) _ (by omega)]
  simp only [Option.bind_some, if_true]
  have e1 : wrap64 ((s.size : Int) + 1) = ((s.size + 1 : Nat) : Int) := by unfold wrap64; omega
  have hm : ∀ z : Int, 0 ≤ z → carillonlaw06_SegmentBack.l0 K L (Int.tmod z (((s.size + 1 : Nat) : Int))) true s (endsV 0 L) 0 = some true := by
    intro z hz
    have g1 := Int.tmod_nonneg (a := z) (((s.size + 1 : Nat) : Int)) hz
    have g2 := Int.tmod_lt_of_pos z (show (0 : Int) < ((s.size + 1 : Nat) : Int) by omega)
    obtain ⟨c, hc⟩ : ∃ c : Nat, Int.tmod z (((s.size + 1 : Nat) : Int)) = (c : Int) := ⟨(Int.tmod z (((s.size + 1 : Nat) : Int))).toNat, by omega⟩
    rw [hc]
    exact hb c (by omega)
  rw [e1, if_neg (show ¬ (((s.size + 1 : Nat) : Int) = 0) by omega)]
  by_cases c : x1 < 0
  · rw [if_pos c, show wrap64 (-(wrap64 (x1 + 1))) = -(x1 + 1) by unfold wrap64; omega]
    exact hm _ (by omega)
  · rw [if_neg c]
    exact hm _ (by omega)
end Go.Proofs.YtmjgifhgodgghaaDoor.P
