import Derived.Test.YtkcooehlahifkaaDoorPx20
import Derived.Outline
import Derived.Laws.BitsAllLaws
import Derived.WalkSpells
import Derived.StillTailTactics
namespace Go.Proofs.YtkcooehlahifkaaDoor.P
open Go.RowKit Go.Proofs.YtkcooehlahifkaaDoorW.PrintWords Go.Proofs.YtkcooehlahifkaaDoorW.PrintLast Go.Proofs.YtkcooehlahifkaaDoorW.PrintMore
attribute [local go_sem] max2_int min2_int max_two min_two max_three min_three max_four min_four
set_option linter.unusedVariables false
set_option linter.unusedSimpArgs false
/-- The first place of a stretch that is turned. -/
def burstAt (n : Nat) (b : Int) : Nat := (if b < 0 then -(b + 1) else b).toNat % (8 * n)
/-- One bit turned, in a list. -/
def flipL (l : List UInt8) (i : Nat) : List UInt8 := l.set (i / 8) (UInt8.ofNat ((l.getD (i / 8) 0).toNat ^^^ 2 ^ (i % 8)))
/-- The bits of y, from the place f of a body of n bytes on, turned in a frame's bytes: the first j of them. -/
def burstL (l : List UInt8) (n f y : Nat) : Nat → List UInt8
  | 0 => l
  | j + 1 => if f + j < 8 * n ∧ y / 2 ^ j % 2 = 1 then flipL (burstL l n f y j) (64 + (f + j)) else burstL l n f y j
theorem burstL_len (l : List UInt8) (n f y : Nat) : ∀ j, (burstL l n f y j).length = l.length := by
  intro j
  induction j with
  | zero => rfl
  | succ j ih =>
    rw [burstL]
    by_cases h : f + j < 8 * n ∧ y / 2 ^ j % 2 = 1
    · rw [if_pos h, flipL, List.length_set, ih]
    · rw [if_neg h, ih]
/-- A frame of which a stretch is turned. -/
def bursted (s : ByteArray) (n f y : Nat) : ByteArray := strOfNums ((burstL s.data.toList n f y (min 32 (8 * n - f))).map fun c => (c.toNat : Int))
theorem map_getD (l : List UInt8) (i : Nat) : (l.map fun c => (c.toNat : Int)).getD i 0 = ((l.getD i 0).toNat : Int) := by
  rw [List.getD_eq_getElem?_getD, List.getElem?_map, List.getD_eq_getElem?_getD]
  cases l[i]? <;> rfl
def carillonlaw02_CrcBurst.f (a0 : ByteArray) (a1 a2 : Int) : Option Bool :=
  match crc_Frame.f (a0.extract 0 (min a0.size 4000)) with
  | some (s, e) => if e = 0 ∧ s.size = min a0.size 4000 + 8 ∧ a0.size ≤ 9223372036854775807 ∧ -9223372036854775808 ≤ a1 ∧ a1 ≤ 9223372036854775807 ∧ 0 ≤ a2 ∧ a2 < 4294967296 ∧ (0 < a0.size → crc_Take.f (bursted s (min a0.size 4000) (burstAt (min a0.size 4000) a1) (a2.toNat ||| 1)) = some ((⟨#[]⟩ : ByteArray), 0, 4)) then some true else none
  | none => none
set_option maxHeartbeats 4000000 in
set_option maxRecDepth 100000 in
theorem carillonlaw02_CrcBurst.calls (a0 : ByteArray) (a1 a2 : Int) (r : Bool) (w : World) (hr_ : Aside0 (r = true)) (HT_ : TabOk w) (h : carillonlaw02_CrcBurst.f a0 a1 a2 = some r) :
    Calls Tryd.prog 10 #[.string a0, .int .i64 a1, .int .u32 a2] w fun e w' => e = .returned (.bool r) ∧ Below w.heap.size w w' := by
  have HT := Aside0.mk HT_
  clear HT_
  have HB := Aside0.mk (Below.refl w.heap.size w)
  unfold carillonlaw02_CrcBurst.f at h
  split at h
  case h_2 => exact absurd h (by simp)
  rename_i s e hF
  split at h
  case isFalse => exact absurd h (by simp)
  rename_i hc
  obtain ⟨rfl, hsz, ha0, hl, hu, hl2, hu2, hT⟩ := hc
  obtain rfl := Option.some.inj h
  clear h
  have AX := Aside0.mk (show carillonlaw02_examples.f = some true from rfl)
  have hbsz : (a0.extract 0 (min a0.size 4000)).size = min a0.size 4000 := by rw [ByteArray.size_extract]; omega
  by_cases hz : (a0.size : Int) ≤ 4000
  · have e : a0.extract 0 (min a0.size 4000) = a0 := by
      apply ByteArray.ext
      rw [ByteArray.data_extract]
      apply Array.toList_inj.1
      rw [Array.toList_extract]
      rw [List.extract_eq_take_drop, List.drop_zero, List.take_of_length_le (by rw [Array.length_toList]; show a0.size ≤ _; omega)]
    rw [e] at hF
    clear e
    rw [show min a0.size 4000 = a0.size by omega] at hsz hT
    have AF := Aside0.mk hF
    clear hF hbsz
    by_cases h0 : a0.size = 0
    · have h80 : (s.size : Int) = 8 := by omega
      have h01 : ((a0.size : Int) == 0) = true := by rw [beq_iff_eq]; omega
      clear hT h80 hsz hl2 hu2 h0
      go_enter Tryd.func10, Tryd.ntmps10
      go_wp2_with (first | (go_at_call 12; (with_reducible refine (carillonlaw02_examples.calls true _ tbk AX.out).mono ?_); rintro e w2 ⟨rfl, hb⟩; have n0_ := Aside0.mk (below_step bw hb); clear HB; have HB := n0_; clear n0_; (try clear hb)) | (go_at_call 17; (with_reducible refine (crc_Frame.calls _ s 0 _ tbk AF.out).mono ?_); rintro e w3 ⟨rfl, hb⟩; have n0_ := Aside0.mk (below_step bw hb); clear HB; have HB := n0_; clear n0_; (try clear hb)))
      go_ret
      exact ⟨er, HB.out⟩
    · replace hT := hT (by omega)
      obtain ⟨p, hp⟩ : ∃ p : Nat, p = burstAt a0.size a1 := ⟨_, rfl⟩
      rw [← hp] at hT
      have hp2 : p < 8 * a0.size := by rw [hp]; unfold burstAt; exact Nat.mod_lt _ (by omega)
      obtain ⟨y, hy⟩ : ∃ y : Nat, y = a2.toNat ||| 1 := ⟨_, rfl⟩
      rw [← hy] at hT
      obtain ⟨m2, rfl⟩ : ∃ m : Nat, a2 = (m : Int) := ⟨a2.toNat, by omega⟩
      have hyl : y < 4294967296 := by rw [hy]; exact Nat.or_lt_two_pow (n := 32) (by omega) (by omega)
      have hor : Go.bits .or .u32 (m2 : Int) 1 = (y : Int) := by rw [hy]; exact u32_or_nat m2 1 (by omega) (by omega)
      have HY := Aside0.mk hy
      clear hy
      have AT := Aside0.mk hT
      clear hT
      by_cases hs : a1 < 0
      · have hw : -(a1 + 1).tmod (8 * (a0.size : Int)) = (p : Int) := by
          rw [hp]; unfold burstAt
          rw [if_pos hs, ← Int.neg_tmod, Int.tmod_eq_emod_of_nonneg (by omega), Int.natCast_emod, Int.toNat_of_nonneg (by omega)]
          congr 1
        clear hp
        have h81 : s.size ≤ a0.size + 8 := by omega
        have h82 : a0.size + 8 ≤ s.size := by omega
        have h83 : ((s.size : Int) == (a0.size : Int) + 8) = true := by rw [beq_iff_eq]; omega
        have h84 : ((s.size : Int) != (a0.size : Int) + 8) = false := by rw [bne_eq_false_iff_eq]; omega
        have h01 : ((a0.size : Int) == 0) = false := by rw [beq_eq_false_iff_ne]; omega
        clear hsz h0 hl2 hu2
        go_enter Tryd.func10, Tryd.ntmps10
        go_wp2_with (first | (go_at_call 12; (with_reducible refine (carillonlaw02_examples.calls true _ tbk AX.out).mono ?_); rintro e w2 ⟨rfl, hb⟩; have n0_ := Aside0.mk (below_step bw hb); clear HB; have HB := n0_; clear n0_; (try clear hb)) | (go_at_call 17; (with_reducible refine (crc_Frame.calls _ s 0 _ tbk AF.out).mono ?_); rintro e w3 ⟨rfl, hb⟩; have n0_ := Aside0.mk (below_step bw hb); clear HB; have HB := n0_; clear n0_; (try clear hb)))
        all_goals (
          have hconv := Lib.run_convert_string_bytes (P := Tryd.prog) w3 9 47 5 s Tryd.underlying9 Tryd.underlying47 Tryd.underlying5
          have hgs : Aside0 (w.heap.size ≤ w3.heap.size) := ⟨HB.out.size⟩
          have n0_ := Aside0.mk (below_step HB.out (below_conv w3 5 s))
          clear HB
          have HB := n0_
          clear n0_
          have HCB := Aside0.mk (Lib.bytesWorld_cell w3 5 s)
          have HFZ : Aside0 (∀ j, j < s.size → (Lib.bytesWorld w3 5 s).frozen? ⟨w3.heap.size, j, none⟩ = false) := ⟨by
            intro j hj
            have hh := Lib.bytesWorld_at_new w3 5 s
            simp only [World.frozen?, hh]
            simp only [Bool.and_eq_false_iff, decide_eq_false_iff_not]
            left
            have : s.size ≤ (Lib.bytesCells w3 5 s).size := by unfold Lib.bytesCells; simp; try omega
            omega⟩
          generalize Lib.bytesWorld w3 5 s = W1 at *
          generalize w3.heap.size = g at *
          generalize grownCap w3 s.size 0 5 = cap at *
          rw [hconv]
          clear hconv
          go_wp2
          go_loopg [11, 12] 32 (fun kq v11 v12 w' => ∃ j : Nat, v11 = .int .i64 (j : Int) ∧ Aside0 (j + kq = 32) ∧ Aside0 (p + j ≤ 8 * a0.size) ∧ Aside0 (∀ i, i < s.size → w'.cell? ⟨g, i, none⟩ = some (.int .u8 (((burstL s.data.toList a0.size p y j).getD i 0).toNat : Int))) ∧ Aside0 (∀ i, i < s.size → w'.frozen? ⟨g, i, none⟩ = false) ∧ Aside0 (Below w.heap.size w w'))
          case atStart => exact ⟨0, rfl, ⟨rfl⟩, ⟨by omega⟩, HCB, HFZ, HB⟩
          case round =>
            obtain ⟨j, rfl, HK4, HJ, HC, HF, HB⟩ := hrel
            by_cases c1 : j < 32 ∧ p + j < 8 * a0.size
            · obtain ⟨c1, c2⟩ := c1
              have hg2 : (p : Int) + (j : Int) = ((p + j : Nat) : Int) := rfl
              obtain ⟨q, hq⟩ : ∃ q, q = (p + j) / 8 := ⟨_, rfl⟩
              obtain ⟨k, hk⟩ : ∃ k, k = (p + j) % 8 := ⟨_, rfl⟩
              have hbt : ((y : Int) / 2 ^ j).tmod 2 = ((y / 2 ^ j % 2 : Nat) : Int) := by
                rw [Int.tmod_eq_emod_of_nonneg (by rw [show (y : Int) / 2 ^ j = ((y / 2 ^ j : Nat) : Int) by rw [Int.natCast_ediv, Int.natCast_pow]; rfl]; exact Int.natCast_nonneg _), show (y : Int) / 2 ^ j = ((y / 2 ^ j : Nat) : Int) by rw [Int.natCast_ediv, Int.natCast_pow]; rfl]
                rfl
              by_cases cb : y / 2 ^ j % 2 = 1
              · have hb1 : (((y : Int) / 2 ^ j).tmod 2 == 1) = true := by rw [beq_iff_eq, hbt, cb]; rfl
                clear hbt hg2
                have HQ := Aside0.mk hq
                have HK := Aside0.mk hk
                obtain ⟨Q, hQ⟩ : ∃ Q, Q = 8 + q := ⟨_, rfl⟩
                have q1 : IntKind.i64.wrap (Int.tdiv ((p : Int) + (j : Int)) 8) = (q : Int) := by rw [IntKind.wrap_i64, Int.tdiv_eq_ediv_of_nonneg (by omega)]; omega
                have q1b : IntKind.i64.wrap (8 + (q : Int)) = (Q : Int) := by rw [IntKind.wrap_i64]; omega
                have k1 : Int.tmod ((p : Int) + (j : Int)) 8 = (k : Int) := by rw [Int.tmod_eq_emod_of_nonneg (by omega)]; omega
                have q2 : (0 : Int) ≤ (Q : Int) := by omega
                have q3 : (Q : Int) < (s.size : Int) := by omega
                have k2 : (k : Int) < 8 := by omega
                have k3 : (0 : Int) ≤ (k : Int) := by omega
                have q4 : Q < s.size := by omega
                have hc0 := HC.out Q q4
                have hf0 := HF.out Q q4
                obtain ⟨cv, hcv⟩ : ∃ cv, cv = ((burstL s.data.toList a0.size p y j).getD Q 0).toNat := ⟨_, rfl⟩
                rw [← hcv] at hc0
                have hcl : cv < 256 := by rw [hcv]; exact UInt8.toNat_lt _
                have HV := Aside0.mk hcv
                have HQ8 := Aside0.mk hQ
                clear hcv hq hk hQ
                go_wp2
                go_still_tail 14, (by kernel_rfl)
                change wpList _ _ _ _ _ wr.drew
                go_wp2
                obtain ⟨gk', rfl⟩ : ∃ x, gk = x + 1 := ⟨gk - 1, by have := HK4.out; omega⟩
                go_roundg gk'
                case rel =>
                  have hx : Go.bits .xor .u8 (cv : Int) ((2 : Int) ^ k % 256) = ((cv ^^^ 2 ^ k : Nat) : Int) := u8_xor_pow cv k hcl (by omega)
                  rw [hx]
                  have hset := set_cell_read wr g Q s.size (burstL s.data.toList a0.size p y j) _ (xor_pow_lt hcl (show k < 8 by omega)) (by rw [burstL_len, Array.length_toList]; rfl) q4 HC.out
                  refine ⟨j + 1, rfl, ⟨by have := HK4.out; omega⟩, ⟨by omega⟩, ⟨?_⟩, ⟨fun i hi => ?_⟩, ⟨below_drew (below_set HB.out hgs.out)⟩⟩
                  · intro i hi
                    have h5 := hset i hi
                    rw [Nat.zero_add, map_getD] at h5
                    rw [h5, burstL, if_pos ⟨c2, cb⟩, flipL, show (64 + (p + j)) / 8 = Q by rw [HQ8.out, HQ.out]; omega, show (64 + (p + j)) % 8 = k by rw [HK.out]; omega, ← HV.out]
                  · rw [World.frozen?_drew, World.frozen?_setCell]
                    exact HF.out i hi
                case measure => omega
              · have hb1 : (((y : Int) / 2 ^ j).tmod 2 == 1) = false := by rw [beq_eq_false_iff_ne, hbt]; intro h; exact cb (Int.ofNat_inj.1 h)
                clear hbt hg2 hq hk
                go_wp2
                obtain ⟨gk', rfl⟩ : ∃ x, gk = x + 1 := ⟨gk - 1, by have := HK4.out; omega⟩
                go_roundg gk'
                case rel => exact ⟨j + 1, rfl, ⟨by have := HK4.out; omega⟩, ⟨by omega⟩, ⟨by rw [burstL, if_neg (fun h => cb h.2)]; exact HC.out⟩, HF, HB⟩
                case measure => omega
            · have hj : j = min 32 (8 * a0.size - p) := by have := HJ.out; have := HK4.out; omega
              have hback := run_convert_bytes_arg (P := Tryd.prog) wr 47 5 Tryd.underlying47 Tryd.underlying5 g 0 s.size cap
                ((burstL s.data.toList a0.size p y j).map fun c => (c.toNat : Int)) (by rw [List.length_map, burstL_len, Array.length_toList]; rfl) (fun i hi => by
                  rw [Nat.zero_add, map_getD]
                  exact HC.out i hi) 9 Tryd.underlying9
              rw [show strOfNums ((burstL s.data.toList a0.size p y j).map fun c => (c.toNat : Int)) = bursted s a0.size p y by unfold bursted; rw [← hj]] at hback
              clear hj
              by_cases c3 : j < 32
              · have c4 : ¬ p + j < 8 * a0.size := fun h => c1 ⟨c3, h⟩
                clear c1
                go_wp2_with (first | (go_at_call 19; (with_reducible refine (crc_Take.calls _ ⟨#[]⟩ 0 4 _ (TabOk.below HT.out HB.out) AT.out).mono ?_); rintro e w4 ⟨rfl, hb⟩; have n0_ := Aside0.mk (below_step HB.out hb); clear HB; have HB := n0_; clear n0_; (try clear hb)))
                go_ret
                exact ⟨er, HB.out⟩
              · clear c1
                go_wp2_with (first | (go_at_call 19; (with_reducible refine (crc_Take.calls _ ⟨#[]⟩ 0 4 _ (TabOk.below HT.out HB.out) AT.out).mono ?_); rintro e w4 ⟨rfl, hb⟩; have n0_ := Aside0.mk (below_step HB.out hb); clear HB; have HB := n0_; clear n0_; (try clear hb)))
                go_ret
                exact ⟨er, HB.out⟩)
      · have hw : Int.tmod a1 (8 * (a0.size : Int)) = (p : Int) := by
          rw [hp]; unfold burstAt
          rw [if_neg hs, Int.tmod_eq_emod_of_nonneg (by omega), Int.natCast_emod, Int.toNat_of_nonneg (by omega)]
          congr 1
        have hw2 : a1 % (8 * (a0.size : Int)) = (p : Int) := by rw [← hw, Int.tmod_eq_emod_of_nonneg (by omega)]
        clear hp
        have h81 : s.size ≤ a0.size + 8 := by omega
        have h82 : a0.size + 8 ≤ s.size := by omega
        have h83 : ((s.size : Int) == (a0.size : Int) + 8) = true := by rw [beq_iff_eq]; omega
        have h84 : ((s.size : Int) != (a0.size : Int) + 8) = false := by rw [bne_eq_false_iff_eq]; omega
        have h01 : ((a0.size : Int) == 0) = false := by rw [beq_eq_false_iff_ne]; omega
        clear hsz h0 hl2 hu2
        go_enter Tryd.func10, Tryd.ntmps10
        go_wp2_with (first | (go_at_call 12; (with_reducible refine (carillonlaw02_examples.calls true _ tbk AX.out).mono ?_); rintro e w2 ⟨rfl, hb⟩; have n0_ := Aside0.mk (below_step bw hb); clear HB; have HB := n0_; clear n0_; (try clear hb)) | (go_at_call 17; (with_reducible refine (crc_Frame.calls _ s 0 _ tbk AF.out).mono ?_); rintro e w3 ⟨rfl, hb⟩; have n0_ := Aside0.mk (below_step bw hb); clear HB; have HB := n0_; clear n0_; (try clear hb)))
        all_goals (
          have hconv := Lib.run_convert_string_bytes (P := Tryd.prog) w3 9 47 5 s Tryd.underlying9 Tryd.underlying47 Tryd.underlying5
          have hgs : Aside0 (w.heap.size ≤ w3.heap.size) := ⟨HB.out.size⟩
          have n0_ := Aside0.mk (below_step HB.out (below_conv w3 5 s))
          clear HB
          have HB := n0_
          clear n0_
          have HCB := Aside0.mk (Lib.bytesWorld_cell w3 5 s)
          have HFZ : Aside0 (∀ j, j < s.size → (Lib.bytesWorld w3 5 s).frozen? ⟨w3.heap.size, j, none⟩ = false) := ⟨by
            intro j hj
            have hh := Lib.bytesWorld_at_new w3 5 s
            simp only [World.frozen?, hh]
            simp only [Bool.and_eq_false_iff, decide_eq_false_iff_not]
            left
            have : s.size ≤ (Lib.bytesCells w3 5 s).size := by unfold Lib.bytesCells; simp; try omega
            omega⟩
          generalize Lib.bytesWorld w3 5 s = W1 at *
          generalize w3.heap.size = g at *
          generalize grownCap w3 s.size 0 5 = cap at *
          rw [hconv]
          clear hconv
          go_wp2
          go_loopg [11, 12] 32 (fun kq v11 v12 w' => ∃ j : Nat, v11 = .int .i64 (j : Int) ∧ Aside0 (j + kq = 32) ∧ Aside0 (p + j ≤ 8 * a0.size) ∧ Aside0 (∀ i, i < s.size → w'.cell? ⟨g, i, none⟩ = some (.int .u8 (((burstL s.data.toList a0.size p y j).getD i 0).toNat : Int))) ∧ Aside0 (∀ i, i < s.size → w'.frozen? ⟨g, i, none⟩ = false) ∧ Aside0 (Below w.heap.size w w'))
          case atStart => exact ⟨0, rfl, ⟨rfl⟩, ⟨by omega⟩, HCB, HFZ, HB⟩
          case round =>
            obtain ⟨j, rfl, HK4, HJ, HC, HF, HB⟩ := hrel
            by_cases c1 : j < 32 ∧ p + j < 8 * a0.size
            · obtain ⟨c1, c2⟩ := c1
              have hg2 : (p : Int) + (j : Int) = ((p + j : Nat) : Int) := rfl
              obtain ⟨q, hq⟩ : ∃ q, q = (p + j) / 8 := ⟨_, rfl⟩
              obtain ⟨k, hk⟩ : ∃ k, k = (p + j) % 8 := ⟨_, rfl⟩
              have hbt : ((y : Int) / 2 ^ j).tmod 2 = ((y / 2 ^ j % 2 : Nat) : Int) := by
                rw [Int.tmod_eq_emod_of_nonneg (by rw [show (y : Int) / 2 ^ j = ((y / 2 ^ j : Nat) : Int) by rw [Int.natCast_ediv, Int.natCast_pow]; rfl]; exact Int.natCast_nonneg _), show (y : Int) / 2 ^ j = ((y / 2 ^ j : Nat) : Int) by rw [Int.natCast_ediv, Int.natCast_pow]; rfl]
                rfl
              by_cases cb : y / 2 ^ j % 2 = 1
              · have hb1 : (((y : Int) / 2 ^ j).tmod 2 == 1) = true := by rw [beq_iff_eq, hbt, cb]; rfl
                clear hbt hg2
                have HQ := Aside0.mk hq
                have HK := Aside0.mk hk
                obtain ⟨Q, hQ⟩ : ∃ Q, Q = 8 + q := ⟨_, rfl⟩
                have q1 : IntKind.i64.wrap (Int.tdiv ((p : Int) + (j : Int)) 8) = (q : Int) := by rw [IntKind.wrap_i64, Int.tdiv_eq_ediv_of_nonneg (by omega)]; omega
                have q1b : IntKind.i64.wrap (8 + (q : Int)) = (Q : Int) := by rw [IntKind.wrap_i64]; omega
                have k1 : Int.tmod ((p : Int) + (j : Int)) 8 = (k : Int) := by rw [Int.tmod_eq_emod_of_nonneg (by omega)]; omega
                have q2 : (0 : Int) ≤ (Q : Int) := by omega
                have q3 : (Q : Int) < (s.size : Int) := by omega
                have k2 : (k : Int) < 8 := by omega
                have k3 : (0 : Int) ≤ (k : Int) := by omega
                have q4 : Q < s.size := by omega
                have hc0 := HC.out Q q4
                have hf0 := HF.out Q q4
                obtain ⟨cv, hcv⟩ : ∃ cv, cv = ((burstL s.data.toList a0.size p y j).getD Q 0).toNat := ⟨_, rfl⟩
                rw [← hcv] at hc0
                have hcl : cv < 256 := by rw [hcv]; exact UInt8.toNat_lt _
                have HV := Aside0.mk hcv
                have HQ8 := Aside0.mk hQ
                clear hcv hq hk hQ
                go_wp2
                go_still_tail 14, (by kernel_rfl)
                change wpList _ _ _ _ _ wr.drew
                go_wp2
                obtain ⟨gk', rfl⟩ : ∃ x, gk = x + 1 := ⟨gk - 1, by have := HK4.out; omega⟩
                go_roundg gk'
                case rel =>
                  have hx : Go.bits .xor .u8 (cv : Int) ((2 : Int) ^ k % 256) = ((cv ^^^ 2 ^ k : Nat) : Int) := u8_xor_pow cv k hcl (by omega)
                  rw [hx]
                  have hset := set_cell_read wr g Q s.size (burstL s.data.toList a0.size p y j) _ (xor_pow_lt hcl (show k < 8 by omega)) (by rw [burstL_len, Array.length_toList]; rfl) q4 HC.out
                  refine ⟨j + 1, rfl, ⟨by have := HK4.out; omega⟩, ⟨by omega⟩, ⟨?_⟩, ⟨fun i hi => ?_⟩, ⟨below_drew (below_set HB.out hgs.out)⟩⟩
                  · intro i hi
                    have h5 := hset i hi
                    rw [Nat.zero_add, map_getD] at h5
                    rw [h5, burstL, if_pos ⟨c2, cb⟩, flipL, show (64 + (p + j)) / 8 = Q by rw [HQ8.out, HQ.out]; omega, show (64 + (p + j)) % 8 = k by rw [HK.out]; omega, ← HV.out]
                  · rw [World.frozen?_drew, World.frozen?_setCell]
                    exact HF.out i hi
                case measure => omega
              · have hb1 : (((y : Int) / 2 ^ j).tmod 2 == 1) = false := by rw [beq_eq_false_iff_ne, hbt]; intro h; exact cb (Int.ofNat_inj.1 h)
                clear hbt hg2 hq hk
                go_wp2
                obtain ⟨gk', rfl⟩ : ∃ x, gk = x + 1 := ⟨gk - 1, by have := HK4.out; omega⟩
                go_roundg gk'
                case rel => exact ⟨j + 1, rfl, ⟨by have := HK4.out; omega⟩, ⟨by omega⟩, ⟨by rw [burstL, if_neg (fun h => cb h.2)]; exact HC.out⟩, HF, HB⟩
                case measure => omega
            · have hj : j = min 32 (8 * a0.size - p) := by have := HJ.out; have := HK4.out; omega
              have hback := run_convert_bytes_arg (P := Tryd.prog) wr 47 5 Tryd.underlying47 Tryd.underlying5 g 0 s.size cap
                ((burstL s.data.toList a0.size p y j).map fun c => (c.toNat : Int)) (by rw [List.length_map, burstL_len, Array.length_toList]; rfl) (fun i hi => by
                  rw [Nat.zero_add, map_getD]
                  exact HC.out i hi) 9 Tryd.underlying9
              rw [show strOfNums ((burstL s.data.toList a0.size p y j).map fun c => (c.toNat : Int)) = bursted s a0.size p y by unfold bursted; rw [← hj]] at hback
              clear hj
              by_cases c3 : j < 32
              · have c4 : ¬ p + j < 8 * a0.size := fun h => c1 ⟨c3, h⟩
                clear c1
                go_wp2_with (first | (go_at_call 19; (with_reducible refine (crc_Take.calls _ ⟨#[]⟩ 0 4 _ (TabOk.below HT.out HB.out) AT.out).mono ?_); rintro e w4 ⟨rfl, hb⟩; have n0_ := Aside0.mk (below_step HB.out hb); clear HB; have HB := n0_; clear n0_; (try clear hb)))
                go_ret
                exact ⟨er, HB.out⟩
              · clear c1
                go_wp2_with (first | (go_at_call 19; (with_reducible refine (crc_Take.calls _ ⟨#[]⟩ 0 4 _ (TabOk.below HT.out HB.out) AT.out).mono ?_); rintro e w4 ⟨rfl, hb⟩; have n0_ := Aside0.mk (below_step HB.out hb); clear HB; have HB := n0_; clear n0_; (try clear hb)))
                go_ret
                exact ⟨er, HB.out⟩)
  · obtain ⟨b, hb⟩ : ∃ b, a0.extract 0 4000 = b := ⟨_, rfl⟩
    rw [show min a0.size 4000 = 4000 by omega] at hF hsz hT hbsz
    rw [hb] at hF hbsz
    have h91 : b.size ≤ 4000 := by omega
    have h92 : 4000 ≤ b.size := by omega
    rw [← hbsz] at hsz hT
    clear hbsz
    have AF := Aside0.mk hF
    clear hF
    have h0 : ¬ b.size = 0 := by omega
    · replace hT := hT (by omega)
      obtain ⟨p, hp⟩ : ∃ p : Nat, p = burstAt b.size a1 := ⟨_, rfl⟩
      rw [← hp] at hT
      have hp2 : p < 8 * b.size := by rw [hp]; unfold burstAt; exact Nat.mod_lt _ (by omega)
      obtain ⟨y, hy⟩ : ∃ y : Nat, y = a2.toNat ||| 1 := ⟨_, rfl⟩
      rw [← hy] at hT
      obtain ⟨m2, rfl⟩ : ∃ m : Nat, a2 = (m : Int) := ⟨a2.toNat, by omega⟩
      have hyl : y < 4294967296 := by rw [hy]; exact Nat.or_lt_two_pow (n := 32) (by omega) (by omega)
      have hor : Go.bits .or .u32 (m2 : Int) 1 = (y : Int) := by rw [hy]; exact u32_or_nat m2 1 (by omega) (by omega)
      have HY := Aside0.mk hy
      clear hy
      have AT := Aside0.mk hT
      clear hT
      by_cases hs : a1 < 0
      · have hw : -(a1 + 1).tmod (8 * (b.size : Int)) = (p : Int) := by
          rw [hp]; unfold burstAt
          rw [if_pos hs, ← Int.neg_tmod, Int.tmod_eq_emod_of_nonneg (by omega), Int.natCast_emod, Int.toNat_of_nonneg (by omega)]
          congr 1
        clear hp
        have h81 : s.size ≤ b.size + 8 := by omega
        have h82 : b.size + 8 ≤ s.size := by omega
        have h83 : ((s.size : Int) == (b.size : Int) + 8) = true := by rw [beq_iff_eq]; omega
        have h84 : ((s.size : Int) != (b.size : Int) + 8) = false := by rw [bne_eq_false_iff_eq]; omega
        have h01 : ((b.size : Int) == 0) = false := by rw [beq_eq_false_iff_ne]; omega
        clear hsz h0 hl2 hu2
        go_enter Tryd.func10, Tryd.ntmps10
        go_wp2_with (first | (go_at_call 12; (with_reducible refine (carillonlaw02_examples.calls true _ tbk AX.out).mono ?_); rintro e w2 ⟨rfl, hb⟩; have n0_ := Aside0.mk (below_step bw hb); clear HB; have HB := n0_; clear n0_; (try clear hb)) | (go_at_call 17; (with_reducible refine (crc_Frame.calls _ s 0 _ tbk AF.out).mono ?_); rintro e w3 ⟨rfl, hb⟩; have n0_ := Aside0.mk (below_step bw hb); clear HB; have HB := n0_; clear n0_; (try clear hb)))
        all_goals (
          have hconv := Lib.run_convert_string_bytes (P := Tryd.prog) w3 9 47 5 s Tryd.underlying9 Tryd.underlying47 Tryd.underlying5
          have hgs : Aside0 (w.heap.size ≤ w3.heap.size) := ⟨HB.out.size⟩
          have n0_ := Aside0.mk (below_step HB.out (below_conv w3 5 s))
          clear HB
          have HB := n0_
          clear n0_
          have HCB := Aside0.mk (Lib.bytesWorld_cell w3 5 s)
          have HFZ : Aside0 (∀ j, j < s.size → (Lib.bytesWorld w3 5 s).frozen? ⟨w3.heap.size, j, none⟩ = false) := ⟨by
            intro j hj
            have hh := Lib.bytesWorld_at_new w3 5 s
            simp only [World.frozen?, hh]
            simp only [Bool.and_eq_false_iff, decide_eq_false_iff_not]
            left
            have : s.size ≤ (Lib.bytesCells w3 5 s).size := by unfold Lib.bytesCells; simp; try omega
            omega⟩
          generalize Lib.bytesWorld w3 5 s = W1 at *
          generalize w3.heap.size = g at *
          generalize grownCap w3 s.size 0 5 = cap at *
          rw [hconv]
          clear hconv
          go_wp2
          go_loopg [11, 12] 32 (fun kq v11 v12 w' => ∃ j : Nat, v11 = .int .i64 (j : Int) ∧ Aside0 (j + kq = 32) ∧ Aside0 (p + j ≤ 8 * b.size) ∧ Aside0 (∀ i, i < s.size → w'.cell? ⟨g, i, none⟩ = some (.int .u8 (((burstL s.data.toList b.size p y j).getD i 0).toNat : Int))) ∧ Aside0 (∀ i, i < s.size → w'.frozen? ⟨g, i, none⟩ = false) ∧ Aside0 (Below w.heap.size w w'))
          case atStart => exact ⟨0, rfl, ⟨rfl⟩, ⟨by omega⟩, HCB, HFZ, HB⟩
          case round =>
            obtain ⟨j, rfl, HK4, HJ, HC, HF, HB⟩ := hrel
            by_cases c1 : j < 32 ∧ p + j < 8 * b.size
            · obtain ⟨c1, c2⟩ := c1
              have hg2 : (p : Int) + (j : Int) = ((p + j : Nat) : Int) := rfl
              obtain ⟨q, hq⟩ : ∃ q, q = (p + j) / 8 := ⟨_, rfl⟩
              obtain ⟨k, hk⟩ : ∃ k, k = (p + j) % 8 := ⟨_, rfl⟩
              have hbt : ((y : Int) / 2 ^ j).tmod 2 = ((y / 2 ^ j % 2 : Nat) : Int) := by
                rw [Int.tmod_eq_emod_of_nonneg (by rw [show (y : Int) / 2 ^ j = ((y / 2 ^ j : Nat) : Int) by rw [Int.natCast_ediv, Int.natCast_pow]; rfl]; exact Int.natCast_nonneg _), show (y : Int) / 2 ^ j = ((y / 2 ^ j : Nat) : Int) by rw [Int.natCast_ediv, Int.natCast_pow]; rfl]
                rfl
              by_cases cb : y / 2 ^ j % 2 = 1
              · have hb1 : (((y : Int) / 2 ^ j).tmod 2 == 1) = true := by rw [beq_iff_eq, hbt, cb]; rfl
                clear hbt hg2
                have HQ := Aside0.mk hq
                have HK := Aside0.mk hk
                obtain ⟨Q, hQ⟩ : ∃ Q, Q = 8 + q := ⟨_, rfl⟩
                have q1 : IntKind.i64.wrap (Int.tdiv ((p : Int) + (j : Int)) 8) = (q : Int) := by rw [IntKind.wrap_i64, Int.tdiv_eq_ediv_of_nonneg (by omega)]; omega
                have q1b : IntKind.i64.wrap (8 + (q : Int)) = (Q : Int) := by rw [IntKind.wrap_i64]; omega
                have k1 : Int.tmod ((p : Int) + (j : Int)) 8 = (k : Int) := by rw [Int.tmod_eq_emod_of_nonneg (by omega)]; omega
                have q2 : (0 : Int) ≤ (Q : Int) := by omega
                have q3 : (Q : Int) < (s.size : Int) := by omega
                have k2 : (k : Int) < 8 := by omega
                have k3 : (0 : Int) ≤ (k : Int) := by omega
                have q4 : Q < s.size := by omega
                have hc0 := HC.out Q q4
                have hf0 := HF.out Q q4
                obtain ⟨cv, hcv⟩ : ∃ cv, cv = ((burstL s.data.toList b.size p y j).getD Q 0).toNat := ⟨_, rfl⟩
                rw [← hcv] at hc0
                have hcl : cv < 256 := by rw [hcv]; exact UInt8.toNat_lt _
                have HV := Aside0.mk hcv
                have HQ8 := Aside0.mk hQ
                clear hcv hq hk hQ
                go_wp2
                go_still_tail 14, (by kernel_rfl)
                change wpList _ _ _ _ _ wr.drew
                go_wp2
                obtain ⟨gk', rfl⟩ : ∃ x, gk = x + 1 := ⟨gk - 1, by have := HK4.out; omega⟩
                go_roundg gk'
                case rel =>
                  have hx : Go.bits .xor .u8 (cv : Int) ((2 : Int) ^ k % 256) = ((cv ^^^ 2 ^ k : Nat) : Int) := u8_xor_pow cv k hcl (by omega)
                  rw [hx]
                  have hset := set_cell_read wr g Q s.size (burstL s.data.toList b.size p y j) _ (xor_pow_lt hcl (show k < 8 by omega)) (by rw [burstL_len, Array.length_toList]; rfl) q4 HC.out
                  refine ⟨j + 1, rfl, ⟨by have := HK4.out; omega⟩, ⟨by omega⟩, ⟨?_⟩, ⟨fun i hi => ?_⟩, ⟨below_drew (below_set HB.out hgs.out)⟩⟩
                  · intro i hi
                    have h5 := hset i hi
                    rw [Nat.zero_add, map_getD] at h5
                    rw [h5, burstL, if_pos ⟨c2, cb⟩, flipL, show (64 + (p + j)) / 8 = Q by rw [HQ8.out, HQ.out]; omega, show (64 + (p + j)) % 8 = k by rw [HK.out]; omega, ← HV.out]
                  · rw [World.frozen?_drew, World.frozen?_setCell]
                    exact HF.out i hi
                case measure => omega
              · have hb1 : (((y : Int) / 2 ^ j).tmod 2 == 1) = false := by rw [beq_eq_false_iff_ne, hbt]; intro h; exact cb (Int.ofNat_inj.1 h)
                clear hbt hg2 hq hk
                go_wp2
                obtain ⟨gk', rfl⟩ : ∃ x, gk = x + 1 := ⟨gk - 1, by have := HK4.out; omega⟩
                go_roundg gk'
                case rel => exact ⟨j + 1, rfl, ⟨by have := HK4.out; omega⟩, ⟨by omega⟩, ⟨by rw [burstL, if_neg (fun h => cb h.2)]; exact HC.out⟩, HF, HB⟩
                case measure => omega
            · have hj : j = min 32 (8 * b.size - p) := by have := HJ.out; have := HK4.out; omega
              have hback := run_convert_bytes_arg (P := Tryd.prog) wr 47 5 Tryd.underlying47 Tryd.underlying5 g 0 s.size cap
                ((burstL s.data.toList b.size p y j).map fun c => (c.toNat : Int)) (by rw [List.length_map, burstL_len, Array.length_toList]; rfl) (fun i hi => by
                  rw [Nat.zero_add, map_getD]
                  exact HC.out i hi) 9 Tryd.underlying9
              rw [show strOfNums ((burstL s.data.toList b.size p y j).map fun c => (c.toNat : Int)) = bursted s b.size p y by unfold bursted; rw [← hj]] at hback
              clear hj
              by_cases c3 : j < 32
              · have c4 : ¬ p + j < 8 * b.size := fun h => c1 ⟨c3, h⟩
                clear c1
                go_wp2_with (first | (go_at_call 19; (with_reducible refine (crc_Take.calls _ ⟨#[]⟩ 0 4 _ (TabOk.below HT.out HB.out) AT.out).mono ?_); rintro e w4 ⟨rfl, hb⟩; have n0_ := Aside0.mk (below_step HB.out hb); clear HB; have HB := n0_; clear n0_; (try clear hb)))
                go_ret
                exact ⟨er, HB.out⟩
              · clear c1
                go_wp2_with (first | (go_at_call 19; (with_reducible refine (crc_Take.calls _ ⟨#[]⟩ 0 4 _ (TabOk.below HT.out HB.out) AT.out).mono ?_); rintro e w4 ⟨rfl, hb⟩; have n0_ := Aside0.mk (below_step HB.out hb); clear HB; have HB := n0_; clear n0_; (try clear hb)))
                go_ret
                exact ⟨er, HB.out⟩)
      · have hw : Int.tmod a1 (8 * (b.size : Int)) = (p : Int) := by
          rw [hp]; unfold burstAt
          rw [if_neg hs, Int.tmod_eq_emod_of_nonneg (by omega), Int.natCast_emod, Int.toNat_of_nonneg (by omega)]
          congr 1
        have hw2 : a1 % (8 * (b.size : Int)) = (p : Int) := by rw [← hw, Int.tmod_eq_emod_of_nonneg (by omega)]
        clear hp
        have h81 : s.size ≤ b.size + 8 := by omega
        have h82 : b.size + 8 ≤ s.size := by omega
        have h83 : ((s.size : Int) == (b.size : Int) + 8) = true := by rw [beq_iff_eq]; omega
        have h84 : ((s.size : Int) != (b.size : Int) + 8) = false := by rw [bne_eq_false_iff_eq]; omega
        have h01 : ((b.size : Int) == 0) = false := by rw [beq_eq_false_iff_ne]; omega
        clear hsz h0 hl2 hu2
        go_enter Tryd.func10, Tryd.ntmps10
        go_wp2_with (first | (go_at_call 12; (with_reducible refine (carillonlaw02_examples.calls true _ tbk AX.out).mono ?_); rintro e w2 ⟨rfl, hb⟩; have n0_ := Aside0.mk (below_step bw hb); clear HB; have HB := n0_; clear n0_; (try clear hb)) | (go_at_call 17; (with_reducible refine (crc_Frame.calls _ s 0 _ tbk AF.out).mono ?_); rintro e w3 ⟨rfl, hb⟩; have n0_ := Aside0.mk (below_step bw hb); clear HB; have HB := n0_; clear n0_; (try clear hb)))
        all_goals (
          have hconv := Lib.run_convert_string_bytes (P := Tryd.prog) w3 9 47 5 s Tryd.underlying9 Tryd.underlying47 Tryd.underlying5
          have hgs : Aside0 (w.heap.size ≤ w3.heap.size) := ⟨HB.out.size⟩
          have n0_ := Aside0.mk (below_step HB.out (below_conv w3 5 s))
          clear HB
          have HB := n0_
          clear n0_
          have HCB := Aside0.mk (Lib.bytesWorld_cell w3 5 s)
          have HFZ : Aside0 (∀ j, j < s.size → (Lib.bytesWorld w3 5 s).frozen? ⟨w3.heap.size, j, none⟩ = false) := ⟨by
            intro j hj
            have hh := Lib.bytesWorld_at_new w3 5 s
            simp only [World.frozen?, hh]
            simp only [Bool.and_eq_false_iff, decide_eq_false_iff_not]
            left
            have : s.size ≤ (Lib.bytesCells w3 5 s).size := by unfold Lib.bytesCells; simp; try omega
            omega⟩
          generalize Lib.bytesWorld w3 5 s = W1 at *
          generalize w3.heap.size = g at *
          generalize grownCap w3 s.size 0 5 = cap at *
          rw [hconv]
          clear hconv
          go_wp2
          go_loopg [11, 12] 32 (fun kq v11 v12 w' => ∃ j : Nat, v11 = .int .i64 (j : Int) ∧ Aside0 (j + kq = 32) ∧ Aside0 (p + j ≤ 8 * b.size) ∧ Aside0 (∀ i, i < s.size → w'.cell? ⟨g, i, none⟩ = some (.int .u8 (((burstL s.data.toList b.size p y j).getD i 0).toNat : Int))) ∧ Aside0 (∀ i, i < s.size → w'.frozen? ⟨g, i, none⟩ = false) ∧ Aside0 (Below w.heap.size w w'))
          case atStart => exact ⟨0, rfl, ⟨rfl⟩, ⟨by omega⟩, HCB, HFZ, HB⟩
          case round =>
            obtain ⟨j, rfl, HK4, HJ, HC, HF, HB⟩ := hrel
            by_cases c1 : j < 32 ∧ p + j < 8 * b.size
            · obtain ⟨c1, c2⟩ := c1
              have hg2 : (p : Int) + (j : Int) = ((p + j : Nat) : Int) := rfl
              obtain ⟨q, hq⟩ : ∃ q, q = (p + j) / 8 := ⟨_, rfl⟩
              obtain ⟨k, hk⟩ : ∃ k, k = (p + j) % 8 := ⟨_, rfl⟩
              have hbt : ((y : Int) / 2 ^ j).tmod 2 = ((y / 2 ^ j % 2 : Nat) : Int) := by
                rw [Int.tmod_eq_emod_of_nonneg (by rw [show (y : Int) / 2 ^ j = ((y / 2 ^ j : Nat) : Int) by rw [Int.natCast_ediv, Int.natCast_pow]; rfl]; exact Int.natCast_nonneg _), show (y : Int) / 2 ^ j = ((y / 2 ^ j : Nat) : Int) by rw [Int.natCast_ediv, Int.natCast_pow]; rfl]
                rfl
              by_cases cb : y / 2 ^ j % 2 = 1
              · have hb1 : (((y : Int) / 2 ^ j).tmod 2 == 1) = true := by rw [beq_iff_eq, hbt, cb]; rfl
                clear hbt hg2
                have HQ := Aside0.mk hq
                have HK := Aside0.mk hk
                obtain ⟨Q, hQ⟩ : ∃ Q, Q = 8 + q := ⟨_, rfl⟩
                have q1 : IntKind.i64.wrap (Int.tdiv ((p : Int) + (j : Int)) 8) = (q : Int) := by rw [IntKind.wrap_i64, Int.tdiv_eq_ediv_of_nonneg (by omega)]; omega
                have q1b : IntKind.i64.wrap (8 + (q : Int)) = (Q : Int) := by rw [IntKind.wrap_i64]; omega
                have k1 : Int.tmod ((p : Int) + (j : Int)) 8 = (k : Int) := by rw [Int.tmod_eq_emod_of_nonneg (by omega)]; omega
                have q2 : (0 : Int) ≤ (Q : Int) := by omega
                have q3 : (Q : Int) < (s.size : Int) := by omega
                have k2 : (k : Int) < 8 := by omega
                have k3 : (0 : Int) ≤ (k : Int) := by omega
                have q4 : Q < s.size := by omega
                have hc0 := HC.out Q q4
                have hf0 := HF.out Q q4
                obtain ⟨cv, hcv⟩ : ∃ cv, cv = ((burstL s.data.toList b.size p y j).getD Q 0).toNat := ⟨_, rfl⟩
                rw [← hcv] at hc0
                have hcl : cv < 256 := by rw [hcv]; exact UInt8.toNat_lt _
                have HV := Aside0.mk hcv
                have HQ8 := Aside0.mk hQ
                clear hcv hq hk hQ
                go_wp2
                go_still_tail 14, (by kernel_rfl)
                change wpList _ _ _ _ _ wr.drew
                go_wp2
                obtain ⟨gk', rfl⟩ : ∃ x, gk = x + 1 := ⟨gk - 1, by have := HK4.out; omega⟩
                go_roundg gk'
                case rel =>
                  have hx : Go.bits .xor .u8 (cv : Int) ((2 : Int) ^ k % 256) = ((cv ^^^ 2 ^ k : Nat) : Int) := u8_xor_pow cv k hcl (by omega)
                  rw [hx]
                  have hset := set_cell_read wr g Q s.size (burstL s.data.toList b.size p y j) _ (xor_pow_lt hcl (show k < 8 by omega)) (by rw [burstL_len, Array.length_toList]; rfl) q4 HC.out
                  refine ⟨j + 1, rfl, ⟨by have := HK4.out; omega⟩, ⟨by omega⟩, ⟨?_⟩, ⟨fun i hi => ?_⟩, ⟨below_drew (below_set HB.out hgs.out)⟩⟩
                  · intro i hi
                    have h5 := hset i hi
                    rw [Nat.zero_add, map_getD] at h5
                    rw [h5, burstL, if_pos ⟨c2, cb⟩, flipL, show (64 + (p + j)) / 8 = Q by rw [HQ8.out, HQ.out]; omega, show (64 + (p + j)) % 8 = k by rw [HK.out]; omega, ← HV.out]
                  · rw [World.frozen?_drew, World.frozen?_setCell]
                    exact HF.out i hi
                case measure => omega
              · have hb1 : (((y : Int) / 2 ^ j).tmod 2 == 1) = false := by rw [beq_eq_false_iff_ne, hbt]; intro h; exact cb (Int.ofNat_inj.1 h)
                clear hbt hg2 hq hk
                go_wp2
                obtain ⟨gk', rfl⟩ : ∃ x, gk = x + 1 := ⟨gk - 1, by have := HK4.out; omega⟩
                go_roundg gk'
                case rel => exact ⟨j + 1, rfl, ⟨by have := HK4.out; omega⟩, ⟨by omega⟩, ⟨by rw [burstL, if_neg (fun h => cb h.2)]; exact HC.out⟩, HF, HB⟩
                case measure => omega
            · have hj : j = min 32 (8 * b.size - p) := by have := HJ.out; have := HK4.out; omega
              have hback := run_convert_bytes_arg (P := Tryd.prog) wr 47 5 Tryd.underlying47 Tryd.underlying5 g 0 s.size cap
                ((burstL s.data.toList b.size p y j).map fun c => (c.toNat : Int)) (by rw [List.length_map, burstL_len, Array.length_toList]; rfl) (fun i hi => by
                  rw [Nat.zero_add, map_getD]
                  exact HC.out i hi) 9 Tryd.underlying9
              rw [show strOfNums ((burstL s.data.toList b.size p y j).map fun c => (c.toNat : Int)) = bursted s b.size p y by unfold bursted; rw [← hj]] at hback
              clear hj
              by_cases c3 : j < 32
              · have c4 : ¬ p + j < 8 * b.size := fun h => c1 ⟨c3, h⟩
                clear c1
                go_wp2_with (first | (go_at_call 19; (with_reducible refine (crc_Take.calls _ ⟨#[]⟩ 0 4 _ (TabOk.below HT.out HB.out) AT.out).mono ?_); rintro e w4 ⟨rfl, hb⟩; have n0_ := Aside0.mk (below_step HB.out hb); clear HB; have HB := n0_; clear n0_; (try clear hb)))
                go_ret
                exact ⟨er, HB.out⟩
              · clear c1
                go_wp2_with (first | (go_at_call 19; (with_reducible refine (crc_Take.calls _ ⟨#[]⟩ 0 4 _ (TabOk.below HT.out HB.out) AT.out).mono ?_); rintro e w4 ⟨rfl, hb⟩; have n0_ := Aside0.mk (below_step HB.out hb); clear HB; have HB := n0_; clear n0_; (try clear hb)))
                go_ret
                exact ⟨er, HB.out⟩)

end Go.Proofs.YtkcooehlahifkaaDoor.P
