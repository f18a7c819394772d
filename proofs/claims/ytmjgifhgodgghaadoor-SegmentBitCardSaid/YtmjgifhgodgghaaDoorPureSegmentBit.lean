/- The law SegmentBit, over plain functions. -/
import Derived.Test.YtmjgifhgodgghaaDoorKinds
import Derived.Test.YtmjgifhgodgghaaDoorPlainJ
import Derived.Test.YtmjgifhgodgghaaDoorPlainK
import Derived.Test.YtmjgifhgodgghaaDoorPx34
namespace Go.Proofs.YtmjgifhgodgghaaDoor.P
open Go.RowKit Go.Proofs.YtmjgifhgodgghaaDoorW.PrintWords
set_option linter.unusedVariables false
set_option linter.unusedSimpArgs false
set_option maxRecDepth 100000
def carillonlaw06_SegmentBit.Pure : Prop := ∀ (x0 : List S23) (x1 : Int) (x2 : Int), (fun l : List S23 => ∀ a ∈ l, wf23 a) x0 → (∀ n ∈ (fun l : List S23 => l.length * 64 :: l.flatMap lens23) x0, n ≤ 140737488351232) → (Lit.int .i64 x1).wf = true → (Lit.int .i64 x2).wf = true → ∃ k, carillonlaw06_SegmentBit.f k x0 x1 x2 = some true
theorem turnedS_ls (s : ByteArray) (i : Nat) : ls (turnedS s i) = flipL (ls s) i := by
  unfold turnedS ls flipL
  generalize s.data.toList.set (i / 8) (UInt8.ofNat ((s.data.toList.getD (i / 8) 0).toNat ^^^ 2 ^ (i % 8))) = l
  rw [strOfNums_data, List.map_map]
  have : ∀ l : List UInt8, l.map ((fun n : Int => UInt8.ofNat n.toNat) ∘ fun c : UInt8 => (c.toNat : Int)) = l := by
    intro l
    induction l with
    | nil => rfl
    | cons c l ih => rw [List.map_cons, ih]; simp
  exact this l
theorem flipL_len (l : List UInt8) (p : Nat) : (flipL l p).length = l.length := by unfold flipL; rw [List.length_set]
theorem flipL_mid (a b c : List UInt8) (p : Nat) (h1 : 8 * a.length ≤ p) (h2 : p < 8 * (a.length + b.length)) : flipL (a ++ (b ++ c)) p = a ++ (flipL b (p - 8 * a.length) ++ c) := by
  unfold flipL
  have e1 : p / 8 = a.length + (p - 8 * a.length) / 8 := by omega
  have e2 : (p - 8 * a.length) % 8 = p % 8 := by omega
  have hj : (p - 8 * a.length) / 8 < b.length := by omega
  rw [e2, e1]
  generalize (p - 8 * a.length) / 8 = j at *
  have hg : (a ++ (b ++ c)).getD (a.length + j) 0 = b.getD j 0 := by
    rw [List.getD_eq_getElem?_getD, List.getD_eq_getElem?_getD, List.getElem?_append_right (by omega), Nat.add_sub_cancel_left, List.getElem?_append_left hj]
  rw [hg, List.set_append_right _ _ (by omega), Nat.add_sub_cancel_left, List.set_append_left _ _ hj]
theorem rises_take : ∀ (l : List SR) (a : Int) (w : Nat), risesR a l → risesR a (l.take w)
  | [], _, _ => fun _ => by rw [List.take_nil]; trivial
  | _ :: _, _, 0 => fun _ => trivial
  | x :: l, a, w + 1 => fun h => ⟨h.1, h.2.1, rises_take l _ w h.2.2⟩
theorem bit_scan {L : List SR} {s : ByteArray} (h : ls s = framesR L) (hr : risesR 0 L) (u : Nat) (hu : u < L.length) (p : Nat) (h1 : 8 * flenR (L.take u) + 32 ≤ p) (h2 : p < 8 * flenR (L.take (u + 1))) (hs : s.size ≤ 34680) (k : Nat) (hk : 50000 ≤ k) : segment_Scan.f k 0 (turnedS s p) = some (L.take u, ((flenR (L.take u) : Nat) : Int), 4) := by
  have hL : L = L.take u ++ (L[u] :: L.drop (u + 1)) := by rw [← List.drop_eq_getElem_cons hu, List.take_append_drop]
  have hf : ls s = framesR (L.take u) ++ (frR L[u] ++ framesR (L.drop (u + 1))) := by
    rw [h]
    conv => lhs; rw [hL]
    rw [framesR_append]
    rfl
  have e : flenR (L.take (u + 1)) = flenR (L.take u) + lenR L[u] := by
    rw [List.take_succ_eq_append_getElem hu, flenR_append]
    rfl
  have hP : RecP L[u] := (risesR_ge hr _ (List.getElem_mem hu)).2
  have hlen : (framesR (L.take u)).length = flenR (L.take u) := framesR_len _
  have hb : lenR L[u] = (recB L[u]).size + 8 := rfl
  have hls : ls (turnedS s p) = framesR (L.take u) ++ (flipL (frR L[u]) (p - 8 * flenR (L.take u)) ++ framesR (L.drop (u + 1))) := by
    rw [turnedS_ls, hf, flipL_mid _ _ _ p (by omega) (by rw [hlen, frR_len]; omega), hlen]
  have hsz : (turnedS s p).size = s.size := by
    rw [← ls_len, ← ls_len, turnedS_ls, flipL_len]
  rw [sscan_is _ 0 (by omega) k (by omega), scan_upto (e := 4) hls (rises_take L 0 u hr) (by rw [List.length_append, flipL_len, frR_len]; have := lenR_ge L[u]; omega) (by decide) (fun x hx => by
    rw [take_flip (recB L[u]) (by have := recB_le hP; omega) (p - 8 * flenR (L.take u)) (by omega) (by omega) x (framesR (L.drop (u + 1))) hx]) _ (by omega)]
  rw [posR_fst]
theorem SegmentBit : carillonlaw06_SegmentBit.Pure := by
  intro x0 x1 x2 hwf hn hw1 hw2
  obtain ⟨K, hK⟩ : ∃ K : Nat, 100000 ≤ K := ⟨100000, Nat.le_refl _⟩
  have h0 := hn _ (List.mem_cons_self ..)
  have hw := wf64 hw1
  have hv := wf64 hw2
  obtain ⟨L, hL, hr, hl⟩ := rising_is x0 (by omega) (fun x hx => by
    have := hwf x hx
    unfold wf23 at this
    exact wf64 this.1) K (by omega)
  obtain ⟨s, hsw, hls, hsz, hs⟩ := written_is L hl (fun x hx => (risesR_ge hr x hx).2) K (by omega)
  refine ⟨K, ?_⟩
  unfold carillonlaw06_SegmentBit.f
  rw [hL]
  dsimp only
  rw [hsw]
  dsimp only
  by_cases c0 : L.length = 0
  · rw [if_pos c0]
  rw [if_neg c0]
  have hu : bitAt L.length x1 < L.length := Nat.mod_lt _ (by omega)
  generalize bitAt L.length x1 = u at *
  have hrd : ∀ w : Nat, w < L.length → rd (endsV 0 L) (w : Int) = ((flenR (L.take (w + 1)) : Nat) : Int) := by
    intro w hlt
    have := endsV_get L 0 w hlt
    rw [Nat.zero_add] at this
    exact this
  have hst : bitSt (endsV 0 L) u = ((flenR (L.take u) : Nat) : Int) := by
    unfold bitSt
    by_cases c : 0 < u
    · rw [if_pos c, hrd (u - 1) (by omega), show u - 1 + 1 = u by omega]
    · rw [if_neg c, show u = 0 by omega]
      rfl
  have hen := hrd u hu
  have e : flenR (L.take (u + 1)) = flenR (L.take u) + lenR L[u] := by
    rw [List.take_succ_eq_append_getElem hu, flenR_append]
    rfl
  have hle : flenR (L.take (u + 1)) ≤ s.size := by
    rw [hsz]
    have := flenR_append (L.take (u + 1)) (L.drop (u + 1))
    rw [List.take_append_drop] at this
    omega
  have hge := lenR_ge L[u]
  have hz2 : 0 ≤ bitZ x2 := by unfold bitZ; split <;> omega
  obtain ⟨p, hp, _, hp1, hp2⟩ := bit_arith (st := bitSt (endsV 0 L) u) (en := rd (endsV 0 L) (u : Int)) (z := bitZ x2) (by omega) (by omega) (by omega) hz2
  have ep : bitP (endsV 0 L) u x2 = p := hp.symm
  rw [ep, bit_scan hls hr u hu p (by omega) (by omega) hs K (by omega)]
  dsimp only
  rw [if_pos ⟨endsV_len 0 L, by omega, by omega, by omega, by omega, by omega, hw.1, hw.2, hv.1, hv.2, hst.symm, rfl, srecords_is _ (by rw [List.length_take]; omega) K (by rw [List.length_take]; omega)⟩]
end Go.Proofs.YtmjgifhgodgghaaDoor.P
