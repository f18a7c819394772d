import Derived.Test.YtkcooehlahifkaaDoorPx2
import Derived.Outline
import Derived.Laws.BitsAllLaws
import Derived.WalkSpells
import Derived.StillTailTactics
namespace Go.Proofs.YtkcooehlahifkaaDoor.P
open Go.RowKit Go.Proofs.YtkcooehlahifkaaDoorW.PrintWords Go.Proofs.YtkcooehlahifkaaDoorW.PrintLast Go.Proofs.YtkcooehlahifkaaDoorW.PrintMore
attribute [local go_sem] max2_int min2_int max_two min_two max_three min_three max_four min_four
set_option linter.unusedVariables false
set_option linter.unusedSimpArgs false
/-- The place of a bit that is turned: behind the length. -/
def turnAt (n : Nat) (b : Int) : Nat := 32 + ((if b < 0 then -(b + 1) else b).toNat % (8 * n - 32))
/-- A text with one bit turned. -/
def turned (s : ByteArray) (i : Nat) : ByteArray := strOfNums ((s.data.toList.set (i / 8) (UInt8.ofNat ((s.data.toList.getD (i / 8) 0).toNat ^^^ 2 ^ (i % 8)))).map fun c => (c.toNat : Int))
theorem u8_xor_pow (c k : Nat) (hc : c < 256) (hk : k < 8) : Go.bits .xor .u8 (c : Int) ((2 : Int) ^ k % 256) = ((c ^^^ 2 ^ k : Nat) : Int) := by
  have h1 : ∀ j : Fin 8, (2 : Int) ^ j.val % 256 = ((2 ^ j.val : Nat) : Int) := by decide
  have h2 : ∀ j : Fin 8, 2 ^ j.val < 256 := by decide
  rw [h1 ⟨k, hk⟩]
  exact u8_xor_nat c (2 ^ k) hc (h2 ⟨k, hk⟩)
theorem xor_pow_lt {c k : Nat} (hc : c < 256) (hk : k < 8) : c ^^^ 2 ^ k < 256 := by
  have h2 : ∀ j : Fin 8, 2 ^ j.val < 2 ^ 8 := by decide
  exact Nat.xor_lt_two_pow (n := 8) hc (h2 ⟨k, hk⟩)
theorem set_cell_read (W : World) (g q n : Nat) (l : List UInt8) (u : Nat) (hu : u < 256) (hl : l.length = n) (hq : q < n)
    (H : ∀ j, j < n → W.cell? ⟨g, j, none⟩ = some (.int .u8 ((l.getD j 0).toNat : Int))) :
    ∀ i, i < n → (W.setCell ⟨g, q, none⟩ (.int .u8 (u : Int))).drew.cell? ⟨g, 0 + i, none⟩ = some (.int .u8 (((l.set q (UInt8.ofNat u)).map fun c => (c.toNat : Int)).getD i 0)) := by
  intro i hi
  rw [Nat.zero_add]
  show (W.setCell ⟨g, q, none⟩ (.int .u8 (u : Int))).cell? ⟨g, i, none⟩ = _
  rw [List.getD_eq_getElem?_getD, List.getElem?_map, List.getElem?_set]
  by_cases h : q = i
  · subst h
    rw [if_pos rfl, if_pos (by omega), World.cell?_setCell_same W _ _ (H q hq)]
    simp only [Option.map_some, Option.getD_some, UInt8.toNat_ofNat']
    rw [Nat.mod_eq_of_lt (by omega)]
  · have hne : (⟨g, q, none⟩ : Addr) ≠ ⟨g, i, none⟩ := by intro e; injection e with _ e2 _; exact h e2
    have ho : (W.setCell ⟨g, q, none⟩ (.int .u8 (u : Int))).cell? ⟨g, i, none⟩ = W.cell? ⟨g, i, none⟩ := by
      first | exact World.cell?_setCell_other W _ _ hne | exact World.cell?_setCell_other W _ _ _ hne
    rw [if_neg h, ho, H i hi, List.getD_eq_getElem?_getD, List.getElem?_eq_getElem (by omega)]
    rfl
def carillonlaw02_CrcBit.f (a0 : ByteArray) (a1 : Int) : Option Bool :=
  match crc_Frame.f (a0.extract 0 (min a0.size 4000)) with
  | some (s, e) => if e = 0 ∧ 8 ≤ s.size ∧ s.size ≤ 5000 ∧ a0.size ≤ 9223372036854775807 ∧ -9223372036854775808 ≤ a1 ∧ a1 ≤ 9223372036854775807 ∧ crc_Take.f (turned s (turnAt s.size a1)) = some ((⟨#[]⟩ : ByteArray), 0, 4) then some true else none
  | none => none
set_option maxHeartbeats 4000000 in
set_option maxRecDepth 100000 in
theorem carillonlaw02_CrcBit.calls (a0 : ByteArray) (a1 : Int) (r : Bool) (w : World) (hr_ : Aside0 (r = true)) (HT_ : TabOk w) (h : carillonlaw02_CrcBit.f a0 a1 = some r) :
    Calls Tryd.prog 9 #[.string a0, .int .i64 a1] w fun e w' => e = .returned (.bool r) ∧ Below w.heap.size w w' := by
  have HT := Aside0.mk HT_
  clear HT_
  have HB := Aside0.mk (Below.refl w.heap.size w)
  unfold carillonlaw02_CrcBit.f at h
  split at h
  case h_2 => exact absurd h (by simp)
  rename_i s e hF
  split at h
  case isFalse => exact absurd h (by simp)
  rename_i hc
  obtain ⟨rfl, h8, h50, ha0, hl, hu, hT⟩ := hc
  obtain rfl := Option.some.inj h
  clear h
  have AX := Aside0.mk (show carillonlaw02_examples.f = some true from rfl)
  have AT := Aside0.mk hT
  have AF := Aside0.mk (show ∀ b : ByteArray, (b = a0 ∧ (a0.size : Int) ≤ 4000 ∨ b = a0.extract 0 4000 ∧ ¬ (a0.size : Int) ≤ 4000) → crc_Frame.f b = some (s, 0) from by
    rintro b (⟨rfl, hz⟩ | ⟨rfl, hz⟩)
    · have e : b.extract 0 (min b.size 4000) = b := by
        apply ByteArray.ext
        rw [ByteArray.data_extract]
        apply Array.toList_inj.1
        rw [Array.toList_extract]
        rw [List.extract_eq_take_drop, List.drop_zero, List.take_of_length_le (by rw [Array.length_toList]; show b.size ≤ _; omega)]
      rw [e] at hF
      exact hF
    · rw [show min a0.size 4000 = 4000 by omega] at hF
      exact hF)
  clear hF hT
  obtain ⟨p, hp⟩ : ∃ p : Nat, p = turnAt s.size a1 := ⟨_, rfl⟩
  rw [← hp] at AT
  have hp1 : 32 ≤ p := by rw [hp]; unfold turnAt; omega
  have hp2 : p < 8 * s.size := by
    rw [hp]; unfold turnAt
    generalize (if a1 < 0 then -(a1 + 1) else a1).toNat = z
    have := Nat.mod_lt z (show 0 < 8 * s.size - 32 by omega)
    omega
  by_cases hs : a1 < 0
  · have hw : wrap64 (32 + -(a1 + 1).tmod (8 * (s.size : Int) - 32)) = (p : Int) := by
      rw [hp]; unfold turnAt
      rw [if_pos hs, ← Int.neg_tmod, Int.tmod_eq_emod_of_nonneg (by omega)]
      have e : (((-(a1 + 1)).toNat % (8 * s.size - 32) : Nat) : Int) = (-(a1 + 1)) % (8 * (s.size : Int) - 32) := by
        rw [Int.natCast_emod, Int.toNat_of_nonneg (by omega)]
        congr 1
        omega
      have h1 := Int.emod_lt_of_pos (-(a1 + 1)) (show 0 < 8 * (s.size : Int) - 32 by omega)
      have h2 := Int.emod_nonneg (-(a1 + 1)) (show 8 * (s.size : Int) - 32 ≠ 0 by omega)
      rw [show ((32 + (-(a1 + 1)).toNat % (8 * s.size - 32) : Nat) : Int) = 32 + (((-(a1 + 1)).toNat % (8 * s.size - 32) : Nat) : Int) from rfl, e]
      unfold wrap64
      omega
    clear hp
    go_enter Tryd.func9, Tryd.ntmps9
    go_wp2_with (first | (go_at_call 12; (with_reducible refine (carillonlaw02_examples.calls true _ tbk AX.out).mono ?_); rintro e w2 ⟨rfl, hb⟩; have n0_ := Aside0.mk (below_step bw hb); clear HB; have HB := n0_; clear n0_; (try clear hb)) | (go_at_call 17; (with_reducible refine (crc_Frame.calls _ s 0 _ tbk (AF.out _ (by first | exact Or.inl ⟨rfl, by omega⟩ | exact Or.inr ⟨rfl, by omega⟩))).mono ?_); rintro e w3 ⟨rfl, hb⟩; have n0_ := Aside0.mk (below_step bw hb); clear HB; have HB := n0_; clear n0_; (try clear hb)))
    all_goals (
      have hconv := Lib.run_convert_string_bytes (P := Tryd.prog) w3 9 47 5 s Tryd.underlying9 Tryd.underlying47 Tryd.underlying5
      have hgs : Aside0 (w.heap.size ≤ w3.heap.size) := ⟨HB.out.size⟩
      have n0_ := Aside0.mk (below_step HB.out (below_conv w3 5 s))
      clear HB
      have HB := n0_
      clear n0_
      have hc0 := Lib.bytesWorld_cell w3 5 s (p / 8) (by omega)
      have HCB := Aside0.mk (Lib.bytesWorld_cell w3 5 s)
      have HL : w3.heap.size < (Lib.bytesWorld w3 5 s).heap.size := by rw [Lib.bytesWorld_size]; omega
      have hfz : ∀ j, j < s.size → (Lib.bytesWorld w3 5 s).frozen? ⟨w3.heap.size, j, none⟩ = false := by
        intro j hj
        have hh := Lib.bytesWorld_at_new w3 5 s
        simp only [World.frozen?, hh]
        simp only [Bool.and_eq_false_iff, decide_eq_false_iff_not]
        left
        have : s.size ≤ (Lib.bytesCells w3 5 s).size := by unfold Lib.bytesCells; simp; try omega
        omega
      have hf0 := hfz (p / 8) (by omega)
      clear hfz
      generalize Lib.bytesWorld w3 5 s = W1 at *
      generalize w3.heap.size = g at *
      generalize grownCap w3 s.size 0 5 = cap at *
      generalize hcv : (s.data.toList.getD (p / 8) 0).toNat = cv at *
      have hcl : cv < 256 := by rw [← hcv]; exact UInt8.toNat_lt _
      have HV := Aside0.mk hcv
      clear hcv
      rw [hconv]
      go_wp2
      obtain ⟨q, hq⟩ : ∃ q, q = p / 8 := ⟨_, rfl⟩
      obtain ⟨k, hk⟩ : ∃ k, k = p % 8 := ⟨_, rfl⟩
      rw [← hq] at hc0 hf0
      have q1 : IntKind.i64.wrap ((p : Int) / 8) = (q : Int) := by rw [IntKind.wrap_i64]; omega
      have k1 : Int.tmod (p : Int) 8 = (k : Int) := by rw [Int.tmod_eq_emod_of_nonneg (by omega)]; omega
      have q2 : (0 : Int) ≤ (q : Int) := by omega
      have q3 : (q : Int) < (s.size : Int) := by omega
      have k2 : (k : Int) < 8 := by omega
      have k3 : (0 : Int) ≤ (k : Int) := by omega
      have HQ := Aside0.mk hq
      have HK := Aside0.mk hk
      clear hq hk
      go_still_tail 12, (by kernel_rfl)
      change wpList _ _ _ _ _ W1.drew
      go_wp2
      have hx : bits .xor .u8 (cv : Int) (2 ^ k % 256) = ((cv ^^^ 2 ^ k : Nat) : Int) := u8_xor_pow cv k hcl (by omega)
      rw [hx]
      have hback := run_convert_bytes_arg (P := Tryd.prog) (W1.setCell ⟨g, q, none⟩ (.int .u8 ((cv ^^^ 2 ^ k : Nat) : Int))).drew 47 5 Tryd.underlying47 Tryd.underlying5 g 0 s.size cap
        ((s.data.toList.set q (UInt8.ofNat (cv ^^^ 2 ^ k))).map fun c => (c.toNat : Int)) (by rw [List.length_map, List.length_set, Array.length_toList]; rfl) (set_cell_read W1 g q s.size s.data.toList _ (xor_pow_lt hcl (by omega)) (by rw [Array.length_toList]; rfl) (by omega) HCB.out) 9 Tryd.underlying9
      rw [hback]
      rw [show strOfNums ((s.data.toList.set q (UInt8.ofNat (cv ^^^ 2 ^ k))).map fun c => (c.toNat : Int)) = turned s p by unfold turned; rw [HQ.out, HK.out, HV.out]]
      have n0_ := Aside0.mk (below_set HB.out (j := q) (v := .int .u8 ((cv ^^^ 2 ^ k : Nat) : Int)) hgs.out)
      clear HB
      have HB := n0_
      clear n0_
      generalize W1.setCell ⟨g, q, none⟩ (.int .u8 ((cv ^^^ 2 ^ k : Nat) : Int)) = W2 at *
      go_wp2_with (first | (go_at_call 19; (with_reducible refine (crc_Take.calls _ ⟨#[]⟩ 0 4 _ (TabOk.below HT.out (below_drew HB.out)) AT.out).mono ?_); rintro e w4 ⟨rfl, hb⟩; have n0_ := Aside0.mk (below_step (below_drew HB.out) hb); clear HB; have HB := n0_; clear n0_; (try clear hb)))
      go_ret
      exact ⟨er, HB.out⟩)
  · have hw : wrap64 (32 + a1 % (8 * (s.size : Int) - 32)) = (p : Int) := by
      rw [hp]; unfold turnAt
      rw [if_neg hs]
      have e : ((a1.toNat % (8 * s.size - 32) : Nat) : Int) = a1 % (8 * (s.size : Int) - 32) := by
        rw [Int.natCast_emod, Int.toNat_of_nonneg (by omega)]
        congr 1
        omega
      have h1 := Int.emod_lt_of_pos a1 (show 0 < 8 * (s.size : Int) - 32 by omega)
      have h2 := Int.emod_nonneg a1 (show 8 * (s.size : Int) - 32 ≠ 0 by omega)
      rw [show ((32 + a1.toNat % (8 * s.size - 32) : Nat) : Int) = 32 + ((a1.toNat % (8 * s.size - 32) : Nat) : Int) from rfl, e]
      unfold wrap64
      omega
    clear hp
    go_enter Tryd.func9, Tryd.ntmps9
    go_wp2_with (first | (go_at_call 12; (with_reducible refine (carillonlaw02_examples.calls true _ tbk AX.out).mono ?_); rintro e w2 ⟨rfl, hb⟩; have n0_ := Aside0.mk (below_step bw hb); clear HB; have HB := n0_; clear n0_; (try clear hb)) | (go_at_call 17; (with_reducible refine (crc_Frame.calls _ s 0 _ tbk (AF.out _ (by first | exact Or.inl ⟨rfl, by omega⟩ | exact Or.inr ⟨rfl, by omega⟩))).mono ?_); rintro e w3 ⟨rfl, hb⟩; have n0_ := Aside0.mk (below_step bw hb); clear HB; have HB := n0_; clear n0_; (try clear hb)))
    all_goals (
      have hconv := Lib.run_convert_string_bytes (P := Tryd.prog) w3 9 47 5 s Tryd.underlying9 Tryd.underlying47 Tryd.underlying5
      have hgs : Aside0 (w.heap.size ≤ w3.heap.size) := ⟨HB.out.size⟩
      have n0_ := Aside0.mk (below_step HB.out (below_conv w3 5 s))
      clear HB
      have HB := n0_
      clear n0_
      have hc0 := Lib.bytesWorld_cell w3 5 s (p / 8) (by omega)
      have HCB := Aside0.mk (Lib.bytesWorld_cell w3 5 s)
      have HL : w3.heap.size < (Lib.bytesWorld w3 5 s).heap.size := by rw [Lib.bytesWorld_size]; omega
      have hfz : ∀ j, j < s.size → (Lib.bytesWorld w3 5 s).frozen? ⟨w3.heap.size, j, none⟩ = false := by
        intro j hj
        have hh := Lib.bytesWorld_at_new w3 5 s
        simp only [World.frozen?, hh]
        simp only [Bool.and_eq_false_iff, decide_eq_false_iff_not]
        left
        have : s.size ≤ (Lib.bytesCells w3 5 s).size := by unfold Lib.bytesCells; simp; try omega
        omega
      have hf0 := hfz (p / 8) (by omega)
      clear hfz
      generalize Lib.bytesWorld w3 5 s = W1 at *
      generalize w3.heap.size = g at *
      generalize grownCap w3 s.size 0 5 = cap at *
      generalize hcv : (s.data.toList.getD (p / 8) 0).toNat = cv at *
      have hcl : cv < 256 := by rw [← hcv]; exact UInt8.toNat_lt _
      have HV := Aside0.mk hcv
      clear hcv
      rw [hconv]
      go_wp2
      obtain ⟨q, hq⟩ : ∃ q, q = p / 8 := ⟨_, rfl⟩
      obtain ⟨k, hk⟩ : ∃ k, k = p % 8 := ⟨_, rfl⟩
      rw [← hq] at hc0 hf0
      have q1 : IntKind.i64.wrap ((p : Int) / 8) = (q : Int) := by rw [IntKind.wrap_i64]; omega
      have k1 : Int.tmod (p : Int) 8 = (k : Int) := by rw [Int.tmod_eq_emod_of_nonneg (by omega)]; omega
      have q2 : (0 : Int) ≤ (q : Int) := by omega
      have q3 : (q : Int) < (s.size : Int) := by omega
      have k2 : (k : Int) < 8 := by omega
      have k3 : (0 : Int) ≤ (k : Int) := by omega
      have HQ := Aside0.mk hq
      have HK := Aside0.mk hk
      clear hq hk
      go_still_tail 12, (by kernel_rfl)
      change wpList _ _ _ _ _ W1.drew
      go_wp2
      have hx : bits .xor .u8 (cv : Int) (2 ^ k % 256) = ((cv ^^^ 2 ^ k : Nat) : Int) := u8_xor_pow cv k hcl (by omega)
      rw [hx]
      have hback := run_convert_bytes_arg (P := Tryd.prog) (W1.setCell ⟨g, q, none⟩ (.int .u8 ((cv ^^^ 2 ^ k : Nat) : Int))).drew 47 5 Tryd.underlying47 Tryd.underlying5 g 0 s.size cap
        ((s.data.toList.set q (UInt8.ofNat (cv ^^^ 2 ^ k))).map fun c => (c.toNat : Int)) (by rw [List.length_map, List.length_set, Array.length_toList]; rfl) (set_cell_read W1 g q s.size s.data.toList _ (xor_pow_lt hcl (by omega)) (by rw [Array.length_toList]; rfl) (by omega) HCB.out) 9 Tryd.underlying9
      rw [hback]
      rw [show strOfNums ((s.data.toList.set q (UInt8.ofNat (cv ^^^ 2 ^ k))).map fun c => (c.toNat : Int)) = turned s p by unfold turned; rw [HQ.out, HK.out, HV.out]]
      have n0_ := Aside0.mk (below_set HB.out (j := q) (v := .int .u8 ((cv ^^^ 2 ^ k : Nat) : Int)) hgs.out)
      clear HB
      have HB := n0_
      clear n0_
      generalize W1.setCell ⟨g, q, none⟩ (.int .u8 ((cv ^^^ 2 ^ k : Nat) : Int)) = W2 at *
      go_wp2_with (first | (go_at_call 19; (with_reducible refine (crc_Take.calls _ ⟨#[]⟩ 0 4 _ (TabOk.below HT.out (below_drew HB.out)) AT.out).mono ?_); rintro e w4 ⟨rfl, hb⟩; have n0_ := Aside0.mk (below_step (below_drew HB.out) hb); clear HB; have HB := n0_; clear n0_; (try clear hb)))
      go_ret
      exact ⟨er, HB.out⟩)

end Go.Proofs.YtkcooehlahifkaaDoor.P
