import Derived.Test.YtnmcknfkmelnbaaDoorFrS
import Derived.Outline
import Derived.Laws.BitsAllLaws
import Derived.WalkSpells
import Derived.StillTailTactics
namespace Go.Proofs.YtnmcknfkmelnbaaDoor.P
open Go.RowKit Go.Proofs.YtnmcknfkmelnbaaDoorW.PrintWords Go.Proofs.YtnmcknfkmelnbaaDoorW.PrintLast Go.Proofs.YtnmcknfkmelnbaaDoorW.PrintMore
attribute [local go_sem] max2_int min2_int max_two min_two max_three min_three max_four min_four
set_option linter.unusedVariables false
set_option linter.unusedSimpArgs false
theorem mk3p (W : World) : (Instr.makeSlice 57 (.int .i64 3) (.int .i64 3)).run Tryd.prog W = .ok (.slice (some ⟨W.heap.size, 0, none⟩) 3 3) (W.alloc (.cells #[.pointer none, .pointer none, .pointer none] 27)) := by kernel_rfl
theorem mk3b (W : World) : (Instr.makeSlice 51 (.int .i64 3) (.int .i64 3)).run Tryd.prog W = .ok (.slice (some ⟨W.heap.size, 0, none⟩) 3 3) (W.alloc (.cells #[.int .i64 0, .int .i64 0, .int .i64 0, .int .i64 0, .int .i64 0, .int .i64 0] 23)) := by kernel_rfl
theorem mkAcc1 (W : World) : (Instr.makeSlice 59 (.int .i64 1) (.int .i64 1)).run Tryd.prog W = .ok (.slice (some ⟨W.heap.size, 0, none⟩) 1 1) (W.alloc (.cells (accCells (List.replicate 1 AcS.zero)).toArray 34)) := by kernel_rfl
theorem mkAcc2 (W : World) : (Instr.makeSlice 59 (.int .i64 2) (.int .i64 2)).run Tryd.prog W = .ok (.slice (some ⟨W.heap.size, 0, none⟩) 2 2) (W.alloc (.cells (accCells (List.replicate 2 AcS.zero)).toArray 34)) := by kernel_rfl
theorem mkAcc3 (W : World) : (Instr.makeSlice 59 (.int .i64 3) (.int .i64 3)).run Tryd.prog W = .ok (.slice (some ⟨W.heap.size, 0, none⟩) 3 3) (W.alloc (.cells (accCells (List.replicate 3 AcS.zero)).toArray 34)) := by kernel_rfl
theorem mkAcc4 (W : World) : (Instr.makeSlice 59 (.int .i64 4) (.int .i64 4)).run Tryd.prog W = .ok (.slice (some ⟨W.heap.size, 0, none⟩) 4 4) (W.alloc (.cells (accCells (List.replicate 4 AcS.zero)).toArray 34)) := by kernel_rfl
theorem mkAcc5 (W : World) : (Instr.makeSlice 59 (.int .i64 5) (.int .i64 5)).run Tryd.prog W = .ok (.slice (some ⟨W.heap.size, 0, none⟩) 5 5) (W.alloc (.cells (accCells (List.replicate 5 AcS.zero)).toArray 34)) := by kernel_rfl
theorem mkAcc6 (W : World) : (Instr.makeSlice 59 (.int .i64 6) (.int .i64 6)).run Tryd.prog W = .ok (.slice (some ⟨W.heap.size, 0, none⟩) 6 6) (W.alloc (.cells (accCells (List.replicate 6 AcS.zero)).toArray 34)) := by kernel_rfl
theorem mkAcc7 (W : World) : (Instr.makeSlice 59 (.int .i64 7) (.int .i64 7)).run Tryd.prog W = .ok (.slice (some ⟨W.heap.size, 0, none⟩) 7 7) (W.alloc (.cells (accCells (List.replicate 7 AcS.zero)).toArray 34)) := by kernel_rfl
theorem mkAcc (n : Nat) (h1 : 1 ≤ n) (h7 : n ≤ 7) (W : World) : (Instr.makeSlice 59 (.int .i64 (n : Int)) (.int .i64 (n : Int))).run Tryd.prog W = .ok (.slice (some ⟨W.heap.size, 0, none⟩) n n) (W.alloc (.cells (accCells (List.replicate n AcS.zero)).toArray 34)) := by
  match n, h1, h7 with
  | 1, _, _ => exact mkAcc1 W
  | 2, _, _ => exact mkAcc2 W
  | 3, _, _ => exact mkAcc3 W
  | 4, _, _ => exact mkAcc4 W
  | 5, _, _ => exact mkAcc5 W
  | 6, _, _ => exact mkAcc6 W
  | 7, _, _ => exact mkAcc7 W
def px0 (n : Nat) : PxS := ⟨n, List.replicate n AcS.zero, 0, [none, none, none], [(0, 0), (0, 0), (0, 0)], []⟩
theorem px0_inv (n : Nat) (h1 : 1 ≤ n) (h7 : n ≤ 7) : PaxI (px0 n) (fun _ _ => False) (fun _ => none) := by
  refine ⟨⟨h1, h7⟩, Int.le_refl _, List.length_replicate, rfl, rfl, ?_, fun _ _ h => h.elim, fun _ h => absurd rfl h, ?_, ?_, fun _ _ h => (by cases h), fun _ h => (by cases h)⟩
  · intro k a ha
    have ha2 : (List.replicate n AcS.zero)[k]? = some a := ha
    rw [List.getElem?_replicate] at ha2
    split at ha2
    case isFalse => cases ha2
    obtain rfl := Option.some.inj ha2
    exact ⟨Int.le_refl _, Int.le_refl _, Int.le_refl _, fun _ h => h.elim, .inl ⟨rfl, rfl⟩, .inr ⟨rfl, rfl⟩, by show ¬ LessP 0 0 0 0; unfold LessP; omega, by decide, fun _ => by show (⟨#[]⟩ : ByteArray).toList = []; rw [toList_eq], .inl ⟨rfl, rfl⟩⟩
  · intro i p hp
    have : ∀ i : Nat, ([none, none, none] : List (Option PrS))[i]? ≠ some (some p) := by
      intro i h
      match i with
      | 0 | 1 | 2 => simp at h
      | _ + 3 => simp at h
    exact absurd hp (this i)
  · intro i j p q hp
    have : ∀ i : Nat, ([none, none, none] : List (Option PrS))[i]? ≠ some (some p) := by
      intro i h
      match i with
      | 0 | 1 | 2 => simp at h
      | _ + 3 => simp at h
    exact absurd hp (this i)
def pxB0 (gx ga gw gb go : Nat) : PxB := ⟨gx, ga, gw, gb, go, [none, none, none], .slice none 0 0, go, #[.string redB, .string greenB, .string blueB]⟩
theorem px0_is {w W : World} {gx ga gw gb go n : Nat} (h1 : 1 ≤ n) (h7 : n ≤ 7) (hX : W.heap[gx]? = some (.cells #[.int .i64 (n : Int), .slice (some ⟨ga, 0, none⟩) n n, .int .i64 0, .slice (some ⟨gw, 0, none⟩) 3 3, .slice (some ⟨gb, 0, none⟩) 3 3, .slice (some ⟨go, 0, none⟩) 3 3, .slice none 0 0] 61 (0, 0)))
    (hA : W.heap[ga]? = some (.cells (accCells (List.replicate n AcS.zero)).toArray 34 (0, 0))) (hW : W.heap[gw]? = some (.cells #[.pointer none, .pointer none, .pointer none] 27 (0, 0))) (hB : W.heap[gb]? = some (.cells #[.int .i64 0, .int .i64 0, .int .i64 0, .int .i64 0, .int .i64 0, .int .i64 0] 23 (0, 0)))
    (hO : W.heap[go]? = some (.cells #[.string redB, .string greenB, .string blueB] 9 (0, 0))) (hT : TabOk W) (hb : Below w.heap.size w W) (hg : w.heap.size ≤ gx ∧ w.heap.size ≤ ga ∧ w.heap.size ≤ gw ∧ w.heap.size ≤ gb ∧ w.heap.size ≤ go ∧ 0 < w.heap.size) : PxIs w W (pxB0 gx ga gw gb go) (px0 n) := by
  refine ⟨hX, hA, hW, hB, hO, hO, Kd.R_nil _ _ _ _ _, rfl, rfl, rfl, List.length_replicate, ⟨h1, h7⟩, ?_, ?_, ?_, hT, hb, hg⟩
  · intro i g h
    have h2 : ([none, none, none] : List (Option Nat))[i]? = some (some g) := h
    match i with
    | 0 | 1 | 2 => simp at h2
    | _ + 3 => simp at h2
  · intro i h
    have h2 : ([none, none, none] : List (Option Nat))[i]? = some none := h
    match i with
    | 0 | 1 | 2 => rfl
    | _ + 3 => simp at h2
  · intro i j g h
    have h2 : ([none, none, none] : List (Option Nat))[i]? = some (some g) := h
    match i with
    | 0 | 1 | 2 => simp at h2
    | _ + 3 => simp at h2
theorem all_rd64 {l : List S64} (h : (l.all fun x => inB x.f0 && inB x.f1 && inB x.f2) = true) (i : Nat) (hi : i < l.length) : inB (rd_T64 l (i : Int)).f0 = true ∧ inB (rd_T64 l (i : Int)).f1 = true ∧ inB (rd_T64 l (i : Int)).f2 = true := by
  have h2 := List.all_eq_true.1 h (rd_T64 l (i : Int)) (by unfold rd_T64; rw [show ((i : Int)).toNat = i from rfl, List.getD_eq_getElem?_getD, List.getElem?_eq_getElem hi]; exact List.getElem_mem hi)
  simp only [Bool.and_eq_true] at h2
  exact ⟨h2.1.1, h2.1.2, h2.2⟩
theorem rdOf_mem (l : List ByteArray) (j : Nat) (h : j < l.length) : rdOf ByteArray.empty l (j : Int) ∈ l := by
  unfold rdOf
  rw [show ((j : Int)).toNat = j from rfl, List.getD_eq_getElem?_getD, List.getElem?_eq_getElem h]
  exact List.getElem_mem h
/-- What 'append(nil, l...)' has made. -/
theorem copy_of {w W : World} {base : Nat} {ok : Nat → Prop} {v : Value} {xs : List ByteArray} (h : Kd.R Kd.string 9 W base ok v xs) : ∃ A c, v = .slice A xs.length c ∧ (xs = [] ∨ ∃ g cs s, A = some ⟨g, 0, none⟩ ∧ v.ownBlock = some g ∧ W.heap[g]? = some (.cells cs 9 (0, 0)) ∧ cs[0]? = some (.string s) ∧ s ∈ xs) := by
  obtain ⟨h1, h2⟩ := Kd.own_of_R h
  rcases h2 with ⟨rfl, h3⟩ | ⟨g, cap, cur, rfl, h4, h5, h6, h7, h8, h9⟩
  · exact ⟨none, 0, by rw [h3], .inl (List.length_eq_zero_iff.1 h3)⟩
  · refine ⟨some ⟨g, 0, none⟩, cap, rfl, ?_⟩
    cases xs with
    | nil => exact .inl rfl
    | cons s l =>
      refine .inr ⟨g, cur, s, rfl, rfl, h5, ?_, by simp⟩
      have h10 := congrArg (fun l => l[0]?) h9
      rw [Nat.mul_one] at h10
      simp only [List.getElem?_take] at h10
      rw [if_pos (by simp)] at h10
      rw [← Array.getElem?_toList]
      exact h10
/-- The copy stands beside the play. -/
theorem PxIs.copied {w W W' : World} {B : PxB} {x : PxS} (h : PxIs w W B x) {v1 : Value} {base : Nat} {ok : Nat → Prop} (hg : W.grownBy W' none) (hat : v1.ownBlock = none ∨ ∃ b, v1.ownBlock = some b ∧ W.heap.size ≤ b) (hR : Kd.R Kd.string 9 W' base ok v1 x.said) :
    ∃ B1 A c, B1.gx = B.gx ∧ PxIs w W' B1 x ∧ v1 = .slice A x.said.length c ∧ (x.said = [] ∨ ∃ s, A = some ⟨B1.gf, 0, none⟩ ∧ B1.fs[0]? = some (.string s) ∧ s ∈ x.said) := by
  have ho : Only W W' (fun _ => False) := ⟨hg.os, hg.tape, hg.output, hg.size, fun i hi _ => hg.block i hi (by simp)⟩
  have h2 : PxIs w W' B x := h.away ho (fun _ hk => hk.elim) id id id id id (fun _ _ => id) (fun _ _ _ => id) id
  obtain ⟨A, c, e, hx⟩ := copy_of (w := w) hR
  rcases hx with hx | ⟨g, cs, s, e1, e2, e3, e4, e5⟩
  · exact ⟨B, A, c, rfl, h2, e, .inl hx⟩
  · refine ⟨{ B with gf := g, fs := cs }, A, c, rfl, h2.frame e3 (fun hk => ?_), e, .inr ⟨s, e1, e4, e5⟩⟩
    rcases hat with hat | ⟨b, hb, hbl⟩
    · rw [e2] at hat; cases hat
    · rw [e2] at hb
      injection hb with hb
      have := Kd.R_lt h.S g hk
      omega
theorem PxIs.ptr1 {w W : World} {B : PxB} {x : PxS} {p : PrS} (h : PxIs w W B x) (hp : x.who[1]? = some (some p)) : ∃ g, W.cell? ⟨B.gw, 1, none⟩ = some (.pointer (some ⟨g, 0, none⟩)) ∧ PrIs W g p := by
  have h1 := h.gs_at 1 (by decide)
  have h2 := h.ptr_at 1 (by decide)
  cases e : B.gs.getD 1 none with
  | none =>
    rw [e] at h1
    rw [h.Pn 1 h1] at hp
    cases hp
  | some g =>
    rw [e] at h1 h2
    obtain ⟨_, q, hq, hQ⟩ := h.P 1 g h1
    rw [hq] at hp
    injection hp with hp
    injection hp with hp
    subst hp
    exact ⟨g, h2, hQ⟩
attribute [local go_sem high] eqA23
def enR.T2 : Bool × List (List Nat × List Nat) := (true, [([], []), ([0], [0]), ([1], [1]), ([], []), ([], []), ([], []), ([2, 3, 4, 5], [2, 3, 4, 5]), ([6], [6]), ([7, 1, 0, 1, 2, 3, 4, 5, 6, 7], [7])])
def enR.B2 : List Nat := [0, 1, 3, 0, 0, 0, 63, 127, 255]
theorem enR.tab2 : rtab .any (opsOf Tryd.f6 2) = enR.T2 := by kernel_rfl
theorem enR.bits2 : waitsOk enR.T2.2 enR.B2 = true := by kernel_rfl
def carillonlaw11_ProposerEnds.f (a0 : Int) (l1 : List S64) : Option Bool :=
  if inB a0 = true ∧ (l1.all fun x => inB x.f0 && inB x.f1 && inB x.f2) = true then some true else none
set_option maxHeartbeats 16000000 in
set_option maxRecDepth 100000 in
theorem carillonlaw11_ProposerEnds.calls (a0 : Int) (A1 : Option Addr) (c1 : Nat) (l1 : List S64) (r : Bool) (w : World) (hr1 : Kd.C k64 w A1 l1.length l1) (hc1 : l1.length ≤ c1) (hr_ : Aside0 (r = true)) (HT_ : TabOk w) (h : carillonlaw11_ProposerEnds.f a0 l1 = some r) :
    Calls Tryd.prog 6 #[.int .i64 a0, .slice A1 l1.length c1] w fun e w' => e = .returned (.bool r) ∧ Below w.heap.size w w' := by
  obtain rfl := hr_.out
  unfold carillonlaw11_ProposerEnds.f at h
  split at h
  case isFalse => exact absurd h (by simp)
  rename_i hcond
  obtain ⟨hi0, hi1⟩ := hcond
  have hmkp := mk3p
  have hmkb := mk3b
  have HI1 := Aside0.mk hi1
  have HR1 := Aside0.mk hr1
  have hm1 := hr1.2.1
  have h0lt : 0 < w.heap.size := World.block_lt_of_cell? w _ (HT_.siz0 0 (by decide))
  have HT0 := Aside0.mk HT_
  obtain ⟨k0, hk0⟩ : ∃ k0, pickN a0 7 = k0 := ⟨_, rfl⟩
  have hk7 : k0 < 7 := by rw [← hk0]; exact pickN_lt a0 7 (by decide)
  have HPK := Aside0.mk (fun W => pick_calls a0 7 W hi0 (by decide) (by decide))
  simp only [hk0] at HPK
  have hw1 : wrap64 (1 + (k0 : Int)) = ((k0 + 1 : Nat) : Int) := by unfold wrap64; omega
  clear hr1 hi1 HT_ hi0 hk0 h hr_
  obtain ⟨n, hn⟩ : ∃ n, k0 + 1 = n := ⟨_, rfl⟩
  have hn1 : 1 ≤ n := by omega
  have hn7 : n ≤ 7 := by omega
  rw [hn] at hw1
  clear hn hk7
  have hmk := mkAcc n hn1 hn7
  go_enter Tryd.func6, Tryd.ntmps6
  go_wp2_with (go_at_call 7; refine (examples_calls w HT0.out).mono ?_)
  rintro e W1 ⟨rfl, hB1⟩
  have HB1 := Aside0.mk hB1
  have HT1 := Aside0.mk (HT0.out.below hB1)
  clear hB1
  go_wp2
  refine start_ (n := 9) (S := fun _ => True) (ds := []) (bz 9 0) (by kernel_rfl) rfl rfl trivial (fun hHeld => ?_); refine with_tabW enR.tab2 enR.bits2 (fun HT_ HW_ => ?_)
  generalize hWd : World.drew _ = Wd
  have HBd : Aside0 (Below w.heap.size w Wd) := ⟨by rw [← hWd]; exact below_drew HB1.out⟩
  clear hWd hHeld HB1 HT1
  refine pu_ 0 (some 13) (bz 9 1) HT_.out ?_
  refine inv_at [1, 2, 3, 4, 5, 6, 7, 8] (fun a0_ b a w' => ∃ (m3 m4 m5 m6 m7 m8 : Value), a = putSel a0_ b [(1, 14, .int .i64 (k0 : Int)), (2, 15, .int .i64 (n : Int)), (3, 16, m3), (4, 17, m4), (5, 18, m5), (6, 19, m6), (7, 20, m7), (8, 6, m8)] ∧ Below w.heap.size w w' ∧ (b 3 = true → (∃ s, m3 = .slice (some ⟨s, 0, none⟩) 3 3 ∧ w.heap.size ≤ s ∧ w'.heap[s]? = some (.cells #[.pointer none, .pointer none, .pointer none] 27 (0, 0)))) ∧ (b 4 = true → (∃ s, m4 = .slice (some ⟨s, 0, none⟩) 3 3 ∧ w.heap.size ≤ s ∧ w'.heap[s]? = some (.cells #[.int .i64 0, .int .i64 0, .int .i64 0, .int .i64 0, .int .i64 0, .int .i64 0] 23 (0, 0)))) ∧ (b 5 = true → (∃ s, m5 = .slice (some ⟨s, 0, none⟩) 3 3 ∧ w.heap.size ≤ s ∧ w'.heap[s]? = some (.cells #[.string redB, .string greenB, .string blueB] 9 (0, 0)))) ∧ (b 6 = true → m6 = .agg #[.int .i64 (n : Int), .slice none 0 0, .int .i64 0, m3, m4, m5, .slice none 0 0]) ∧ (b 7 = true → ∃ s, m7 = .pointer (some ⟨s, 0, none⟩) ∧ w.heap.size ≤ s ∧ w'.heap[s]? = some (.cells #[.int .i64 (n : Int), .slice none 0 0, .int .i64 0, m3, m4, m5, .slice none 0 0] 61 (0, 0))) ∧ (b 8 = true → m8 = m7)) HT_.out HW_.out (by kernel_rfl) (by kernel_rfl) ?_ ?_ ?_
  · exact ⟨undef, undef, undef, undef, undef, undef, by simp only [putSel, Bool.false_eq_true, if_false], HBd.out, fun h_ => absurd h_ (by decide), fun h_ => absurd h_ (by decide), fun h_ => absurd h_ (by decide), fun h_ => absurd h_ (by decide), fun h_ => absurd h_ (by decide), fun h_ => absurd h_ (by decide)⟩
  · skip
    refine steps_cons ?_ ?_
    · rintro b a w' ⟨m3, m4, m5, m6, m7, m8, ha, hB, h3, h4, h5, h6, h7, h8⟩ hb_ hon hoff
      refine ⟨_, rfl, fun K hK => ?_⟩
      have e11 : a.tmps[13]? = some (.int .i64 a0) := by rw [ha]; exact (putSel_off rfl).trans rfl
      replace ha := Aside0.mk ha
      refine goes_ Tryd.func10 (by kernel_rfl) rfl #[.int .i64 a0, .int .i64 7] (by rfl) rfl rfl (by first | (simp only [List.map_toArray, List.map_cons, List.map_nil, Act.eval, Array.getD_eq_getD_getElem?, e11, Option.getD_some]; done) | (simp only [List.map_toArray, List.map_cons, List.map_nil, Act.eval, Array.getD_eq_getD_getElem?, e11, Option.getD_some]; rfl)) ?_
      refine (HPK.out _).mono ?_
      rintro e w2 ⟨rfl, m2_, rfl⟩
      refine ⟨_, rfl, ?_⟩
      have hb2 : Below w'.heap.size w' (w'.drewN m2_) := pw_below_drewN (Below.refl _ _) m2_
      exact hK.out _ _ ⟨m3, m4, m5, m6, m7, m8, (by rw [ha.out]; exact putSel_upk 0 hb_ rfl rfl rfl), pw_below_drewN hB m2_, fun hb => (h3 hb).imp fun s hs => ⟨hs.1, hs.2.1, blk_below hs.2.2 hb2⟩, fun hb => (h4 hb).imp fun s hs => ⟨hs.1, hs.2.1, blk_below hs.2.2 hb2⟩, fun hb => (h5 hb).imp fun s hs => ⟨hs.1, hs.2.1, blk_below hs.2.2 hb2⟩, h6, fun hb => (h7 hb).imp fun s hs => ⟨hs.1, hs.2.1, blk_below hs.2.2 hb2⟩, h8⟩
    refine steps_cons ?_ ?_
    · rintro b a w' ⟨m3, m4, m5, m6, m7, m8, ha, hB, h3, h4, h5, h6, h7, h8⟩ hb_ hon hoff
      refine ⟨_, rfl, fun K hK => ?_⟩
      have e14 : a.tmps[14]? = some (.int .i64 (k0 : Int)) := by rw [ha]; exact putSel_on (e := (1, 14, .int .i64 (k0 : Int))) 0 rfl rfl (hon 1 (by kernel_rfl)) rfl
      replace ha := Aside0.mk ha
      refine value_ (w1 := w') (v := .int .i64 (n : Int)) (by rfl) rfl ?_ ?_
      · go_simp
        (try simp only [i64_w])
        (try rw [hw1])
        try rfl
      exact hK.out _ _ ⟨m3, m4, m5, m6, m7, m8, (by rw [ha.out]; exact putSel_upk 1 hb_ rfl rfl rfl), hB, h3, h4, h5, fun h0_ => absurd ((hoff 6 (by kernel_rfl)).symm.trans h0_) (by decide), h7, h8⟩
    refine steps_cons ?_ ?_
    · rintro b a w' ⟨m3, m4, m5, m6, m7, m8, ha, hB, h3, h4, h5, h6, h7, h8⟩ hb_ hon hoff
      refine ⟨_, rfl, fun K hK => ?_⟩
      replace ha := Aside0.mk ha
      refine value_ (w1 := w'.alloc (.cells #[.pointer none, .pointer none, .pointer none] 27)) (v := .slice (some ⟨w'.heap.size, 0, none⟩) 3 3) (by rfl) rfl ?_ ?_
      · go_simp
        try rfl
      exact hK.out _ _ ⟨(.slice (some ⟨w'.heap.size, 0, none⟩) 3 3), m4, m5, m6, m7, m8, (by rw [ha.out]; exact putSel_upk 2 hb_ rfl rfl rfl), below_alloc hB _, fun _ => ⟨_, rfl, hB.size, heap_alloc_new w' _⟩, fun hb => (h4 hb).imp fun s hs => ⟨hs.1, hs.2.1, blk_alloc hs.2.2 _⟩, fun hb => (h5 hb).imp fun s hs => ⟨hs.1, hs.2.1, blk_alloc hs.2.2 _⟩, fun h0_ => absurd ((hoff 6 (by kernel_rfl)).symm.trans h0_) (by decide), fun h0_ => absurd ((hoff 7 (by kernel_rfl)).symm.trans h0_) (by decide), h8⟩
    refine steps_cons ?_ ?_
    · rintro b a w' ⟨m3, m4, m5, m6, m7, m8, ha, hB, h3, h4, h5, h6, h7, h8⟩ hb_ hon hoff
      refine ⟨_, rfl, fun K hK => ?_⟩
      replace ha := Aside0.mk ha
      refine value_ (w1 := w'.alloc (.cells #[.int .i64 0, .int .i64 0, .int .i64 0, .int .i64 0, .int .i64 0, .int .i64 0] 23)) (v := .slice (some ⟨w'.heap.size, 0, none⟩) 3 3) (by rfl) rfl ?_ ?_
      · go_simp
        try rfl
      exact hK.out _ _ ⟨m3, (.slice (some ⟨w'.heap.size, 0, none⟩) 3 3), m5, m6, m7, m8, (by rw [ha.out]; exact putSel_upk 3 hb_ rfl rfl rfl), below_alloc hB _, fun hb => (h3 hb).imp fun s hs => ⟨hs.1, hs.2.1, blk_alloc hs.2.2 _⟩, fun _ => ⟨_, rfl, hB.size, heap_alloc_new w' _⟩, fun hb => (h5 hb).imp fun s hs => ⟨hs.1, hs.2.1, blk_alloc hs.2.2 _⟩, fun h0_ => absurd ((hoff 6 (by kernel_rfl)).symm.trans h0_) (by decide), fun h0_ => absurd ((hoff 7 (by kernel_rfl)).symm.trans h0_) (by decide), h8⟩
    refine steps_cons ?_ ?_
    · rintro b a w' ⟨m3, m4, m5, m6, m7, m8, ha, hB, h3, h4, h5, h6, h7, h8⟩ hb_ hon hoff
      refine ⟨_, rfl, fun K hK => ?_⟩
      replace ha := Aside0.mk ha
      refine value_ (w1 := w'.alloc (.cells #[.string redB, .string greenB, .string blueB] 9)) (v := .slice (some ⟨w'.heap.size, 0, none⟩) 3 3) (by rfl) rfl ?_ ?_
      · go_simp
        try rfl
      exact hK.out _ _ ⟨m3, m4, (.slice (some ⟨w'.heap.size, 0, none⟩) 3 3), m6, m7, m8, (by rw [ha.out]; exact putSel_upk 4 hb_ rfl rfl rfl), below_alloc hB _, fun hb => (h3 hb).imp fun s hs => ⟨hs.1, hs.2.1, blk_alloc hs.2.2 _⟩, fun hb => (h4 hb).imp fun s hs => ⟨hs.1, hs.2.1, blk_alloc hs.2.2 _⟩, fun _ => ⟨_, rfl, hB.size, heap_alloc_new w' _⟩, fun h0_ => absurd ((hoff 6 (by kernel_rfl)).symm.trans h0_) (by decide), fun h0_ => absurd ((hoff 7 (by kernel_rfl)).symm.trans h0_) (by decide), h8⟩
    refine steps_cons ?_ ?_
    · rintro b a w' ⟨m3, m4, m5, m6, m7, m8, ha, hB, h3, h4, h5, h6, h7, h8⟩ hb_ hon hoff
      refine ⟨_, rfl, fun K hK => ?_⟩
      have e15 : a.tmps[15]? = some (.int .i64 (n : Int)) := by rw [ha]; exact putSel_on (e := (2, 15, .int .i64 (n : Int))) 1 rfl rfl (hon 2 (by kernel_rfl)) rfl
      have e16 : a.tmps[16]? = some (m3) := by rw [ha]; exact putSel_on (e := (3, 16, m3)) 2 rfl rfl (hon 3 (by kernel_rfl)) rfl
      have e17 : a.tmps[17]? = some (m4) := by rw [ha]; exact putSel_on (e := (4, 17, m4)) 3 rfl rfl (hon 4 (by kernel_rfl)) rfl
      have e18 : a.tmps[18]? = some (m5) := by rw [ha]; exact putSel_on (e := (5, 18, m5)) 4 rfl rfl (hon 5 (by kernel_rfl)) rfl
      obtain ⟨s3, q3, -⟩ := h3 (hon 3 (by kernel_rfl))
      obtain ⟨s4, q4, -⟩ := h4 (hon 4 (by kernel_rfl))
      obtain ⟨s5, q5, -⟩ := h5 (hon 5 (by kernel_rfl))
      rw [q3] at e16
      rw [q4] at e17
      rw [q5] at e18
      replace ha := Aside0.mk ha
      refine value_ (w1 := w') (v := .agg #[.int .i64 (n : Int), .slice none 0 0, .int .i64 0, .slice (some ⟨s3, 0, none⟩) 3 3, .slice (some ⟨s4, 0, none⟩) 3 3, .slice (some ⟨s5, 0, none⟩) 3 3, .slice none 0 0]) (by rfl) rfl ?_ ?_
      · go_simp
        try rfl
      exact hK.out _ _ ⟨m3, m4, m5, .agg #[.int .i64 (n : Int), .slice none 0 0, .int .i64 0, .slice (some ⟨s3, 0, none⟩) 3 3, .slice (some ⟨s4, 0, none⟩) 3 3, .slice (some ⟨s5, 0, none⟩) 3 3, .slice none 0 0], m7, m8, (by rw [ha.out]; exact putSel_upk 5 hb_ rfl rfl rfl), hB, h3, h4, h5, fun _ => by rw [q3, q4, q5], fun h0_ => absurd ((hoff 7 (by kernel_rfl)).symm.trans h0_) (by decide), h8⟩
    refine steps_cons ?_ ?_
    · rintro b a w' ⟨m3, m4, m5, m6, m7, m8, ha, hB, h3, h4, h5, h6, h7, h8⟩ hb_ hon hoff
      refine ⟨_, rfl, fun K hK => ?_⟩
      have e19 : a.tmps[19]? = some (m6) := by rw [ha]; exact putSel_on (e := (6, 19, m6)) 5 rfl rfl (hon 6 (by kernel_rfl)) rfl
      rw [h6 (hon 6 (by kernel_rfl))] at e19
      replace ha := Aside0.mk ha
      refine box_step ?hg (N := 20) ?hd (cs := #[.int .i64 (n : Int), .slice none 0 0, .int .i64 0, m3, m4, m5, .slice none 0 0]) (t := 61) ?hr ?_; (case hd => rfl); (case hg => rfl); (case hr => first | (go_simp; done) | (go_simp; rfl))
      intro gx hg w2 hbox hb2
      subst hg
      exact hK.out _ _ ⟨m3, m4, m5, m6, .pointer (some ⟨w'.heap.size, 0, none⟩), m8, (by rw [ha.out]; exact putSel_upk 6 hb_ rfl rfl rfl), below_step hB hb2, fun hb => (h3 hb).imp fun s hs => ⟨hs.1, hs.2.1, blk_below hs.2.2 hb2⟩, fun hb => (h4 hb).imp fun s hs => ⟨hs.1, hs.2.1, blk_below hs.2.2 hb2⟩, fun hb => (h5 hb).imp fun s hs => ⟨hs.1, hs.2.1, blk_below hs.2.2 hb2⟩, h6, fun _ => ⟨_, rfl, hB.size, hbox⟩, fun h0_ => absurd ((hoff 8 (by kernel_rfl)).symm.trans h0_) (by decide)⟩
    refine steps_cons ?_ ?_
    · rintro b a w' ⟨m3, m4, m5, m6, m7, m8, ha, hB, h3, h4, h5, h6, h7, h8⟩ hb_ hon hoff
      refine ⟨_, rfl, fun K hK => ?_⟩
      have e20 : a.tmps[20]? = some (m7) := by rw [ha]; exact putSel_on (e := (7, 20, m7)) 6 rfl rfl (hon 7 (by kernel_rfl)) rfl
      replace ha := Aside0.mk ha
      refine value_ (w1 := w') (v := m7) (by rfl) rfl ?_ ?_
      · go_simp
        try rfl
      exact hK.out _ _ ⟨m3, m4, m5, m6, m7, m7, (by rw [ha.out]; exact putSel_upk 7 hb_ rfl rfl rfl), hB, h3, h4, h5, h6, h7, fun _ => rfl⟩
    exact steps_nil
  rintro b a W2 hall ⟨m3, m4, m5, m6, m7, m8, ha, hB, h3, h4, h5, h6, h7, h8⟩
  have hb1_ := hall 1 (by kernel_rfl)
  have hb2_ := hall 2 (by kernel_rfl)
  have hb3_ := hall 3 (by kernel_rfl)
  have hb4_ := hall 4 (by kernel_rfl)
  have hb5_ := hall 5 (by kernel_rfl)
  have hb6_ := hall 6 (by kernel_rfl)
  have hb7_ := hall 7 (by kernel_rfl)
  have hb8_ := hall 8 (by kernel_rfl)
  subst ha
  obtain ⟨gw, rfl, hgw, HW⟩ := h3 hb3_
  obtain ⟨gb, rfl, hgb, HB⟩ := h4 hb4_
  obtain ⟨go, rfl, hgo, HO⟩ := h5 hb5_
  obtain rfl := h6 hb6_
  obtain ⟨gx, rfl, hgx, HX⟩ := h7 hb7_
  obtain rfl := h8 hb8_
  simp only [putSel, hb1_, hb2_, hb3_, hb4_, hb5_, hb6_, hb7_, hb8_, if_true, Act.put, sl1, sl2, sl3]
  clear hall hb1_ hb2_ hb3_ hb4_ hb5_ hb6_ hb7_ hb8_ h3 h4 h5 h6 h7 h8 HT_ HW_ HBd
  have hgxlt := blk_lt HX
  have hcX0 : W2.cell? ⟨gx, 0, none⟩ = some (.int .i64 (n : Int)) := (blk_cell HX 0).trans rfl
  have hXa := blk_alloc HX (.cells (accCells (List.replicate n AcS.zero)).toArray 34)
  have hcX1 : (W2.alloc (.cells (accCells (List.replicate n AcS.zero)).toArray 34)).cell? ⟨gx, 1, none⟩ = some (.slice none 0 0) := (blk_cell hXa 1).trans rfl
  have hfX1 := blk_frozen hXa 1
  go_wp2
  have hX3 : PxIs w ((W2.setCell ⟨gx, 1, none⟩ (.slice (some ⟨W2.heap.size, 0, none⟩) n n)).alloc (.cells (accCells (List.replicate n AcS.zero)).toArray 34)) (pxB0 gx W2.heap.size gw gb go) (px0 n) := by
    have hB3 := below_alloc (below_set hB hgx (j := 1) (v := .slice (some ⟨W2.heap.size, 0, none⟩) n n)) (.cells (accCells (List.replicate n AcS.zero)).toArray 34)
    have hsz : (W2.setCell ⟨gx, 1, none⟩ (.slice (some ⟨W2.heap.size, 0, none⟩) n n)).heap.size = W2.heap.size := World.size_setCell ..
    exact px0_is hn1 hn7 (blk_alloc (blk_put HX 1 _ rfl) _) (by have hn_ := blk_new (W2.setCell ⟨gx, 1, none⟩ (.slice (some ⟨W2.heap.size, 0, none⟩) n n)) (.cells (accCells (List.replicate n AcS.zero)).toArray 34); rw [hsz] at hn_; exact hn_) (blk_alloc (blk_far HW (blk_ne HW HX (by decide)) _) _) (blk_alloc (blk_far HB (blk_ne HB HX (by decide)) _) _) (blk_alloc (blk_far HO (blk_ne HO HX (by decide)) _) _) (HT0.out.below hB3) hB3 ⟨hgx, hB.size, hgw, hgb, hgo, h0lt⟩
  have HX3 := Aside0.mk hX3
  clear hX3 hcX0 hcX1 hfX1 hXa hgxlt HX HW HB HO hB hgx hgw hgb hgo hmk hmkp hmkb HPK hw1
  generalize ((W2.setCell ⟨gx, 1, none⟩ (.slice (some ⟨W2.heap.size, 0, none⟩) n n)).alloc (.cells (accCells (List.replicate n AcS.zero)).toArray 34)) = W3 at HX3 ⊢
  obtain ⟨B0, hB0⟩ : ∃ B0, pxB0 gx W2.heap.size gw gb go = B0 := ⟨_, rfl⟩
  have hgx0 : B0.gx = gx := by rw [← hB0]; rfl
  rw [hB0] at HX3
  clear hB0
  go_loopg [7] (l1.length + 1) (fun kq v7 W => ∃ (i : Nat) (x : PxS) (B : PxB), i ≤ l1.length ∧ i ≤ 200 ∧ v7 = .int .i64 (i : Int) ∧ l1.length - i < kq ∧ B.gx = gx ∧ Aside0 (PxIs w W B x) ∧ Aside0 ((∃ vt pv, PaxI x vt pv) ∧ x.top ≤ i ∧ x.said.length ≤ i ∧ x.n = n))
  case atStart => exact ⟨0, px0 n, B0, Nat.zero_le _, Nat.zero_le _, rfl, by omega, hgx0, HX3, ⟨⟨_, _, px0_inv n hn1 hn7⟩, Int.le_refl _, Nat.le_refl _, rfl⟩⟩
  case round =>
    obtain ⟨i, x, B, hi, hi3, rfl, hq, hgB, HX, HI⟩ := hrel
    clear HX3 hgx0
    by_cases hlt : i < l1.length ∧ i < 200
    · obtain ⟨hl, hl3⟩ := hlt
      have hdc : decide ((i : Int) < 200) = true := decide_eq_true (by omega)
      obtain ⟨ad, e0, ht0, ht1, ht2⟩ := at_T64 (Kd.C_below HR1.out HX.out.Bl) (i : Int) (by omega) (by omega)
      cases e0
      have hyb := all_rd64 HI1.out i hl
      rw [show ((i : Int)).toNat = i from rfl] at ht0 ht1 ht2
      generalize rd_T64 l1 (i : Int) = y at ht0 ht1 ht2 hyb
      obtain ⟨yk, yp, ya⟩ := y
      dsimp only at ht0 ht1 ht2 hyb
      have HYB := Aside0.mk hyb
      clear hyb
      have HSC := step_calls w wr B x yk yp ya HYB.out.1 HYB.out.2.1 HYB.out.2.2 HX.out HI.out.1 (by have := HI.out.2.1; omega) (by have := HI.out.2.2.1; omega)
      rw [hgB] at HSC
      have HSC1 := Aside0.mk HSC
      clear HSC
      go_wp2_with (go_at_call 23; refine HSC1.out.mono ?_)
      rintro e W5 ⟨rfl, B5, hB5, HX5⟩
      have HX5 := Aside0.mk HX5
      have hst := x.stepF_top yk yp ya
      have HI5 := Aside0.mk (And.intro (PaxI.stepF HI.out.1 yk yp ya) (And.intro (show (x.stepF yk yp ya).top ≤ (i : Int) + 1 by have := HI.out.2.1; omega) (And.intro (show (x.stepF yk yp ya).said.length ≤ i + 1 by have := HI.out.2.2.1; omega) (hst.2.2.2.trans HI.out.2.2.2))))
      clear hst HSC1 HYB HX HI ht0 ht1 ht2
      go_wp2
      go_roundg (l1.length - i)
      case rel => exact ⟨i + 1, _, B5, by omega, by omega, by first | go_num | (congr 1; omega) | rfl, by omega, (congrArg (·.1) hB5).trans hgB, HX5, HI5⟩
      case measure => omega
    · by_cases hl : i < l1.length
      · have hd1 : decide ((i : Int) < (l1.length : Int)) = true := decide_eq_true (by omega)
        have hd2 : decide ((i : Int) < 200) = false := decide_eq_false (by omega)
        obtain ⟨hI0, htop, hsl, hxn⟩ := HI.out
        have HPI := Aside0.mk hI0
        have ht0 : 0 ≤ x.top := by obtain ⟨vt, pv, h1⟩ := hI0; exact h1.top0
        have htop2 : x.top ≤ 200 := by omega
        have hsl2 : x.said.length ≤ 200 := by omega
        clear hI0 htop hsl HI hq
        obtain ⟨Ao, co, eo, hco, hCo⟩ := Kd.R_reads HX.out.S
        have hmo := Kd.C_max hCo
        have hcX6 : wr.cell? ⟨gx, 6, none⟩ = some (.slice Ao x.said.length co) := by rw [← hgB, ← eo]; exact (blk_cell HX.out.X 6).trans rfl
        have HCO := Aside0.mk hCo
        clear eo hCo
        have hszw := HX.out.Bl.size
        go_wp2_with ((with_reducible refine gate_builtin (b := .append) (xs := #[.const (.slice none 0 0), .tmp 48]) rfl ?_); at_builtin; refine Kd.R_append_row Value.string ⟨#[]⟩ (h1 := fun _ => rfl) (w0 := w) w.heap.size rfl (.const (.slice none 0 0)) (.tmp 48) 58 9 (.string ⟨#[]⟩) 16 rfl Tryd.underlying58 infoStr rfl (by decide) (.slice none 0 0) [] x.said Ao x.said.length co (fun _ => True) rfl rfl (fun _ _ => trivial) (Kd.R_nil _ _ _ _ _) HCO.out HX.out.Bl hszw (by simp only [List.length_nil, Nat.zero_add]; omega) ?_)
        intro v1 W8 hR8 hb8 hg8 hat8
        obtain ⟨B1, A8, c8, hB1, hX8, rfl, h8⟩ := HX.out.copied hg8 hat8 hR8
        have HX8 := Aside0.mk hX8
        have H8 := Aside0.mk h8
        clear hX8 h8 hR8 hb8 hg8 hat8 hcX6 HCO hszw hlt hl
        have hgx1 : B1.gx = gx := hB1.trans hgB
        have HSC := step_calls w W8 B1 x 0 1 0 (by decide) (by decide) (by decide) HX8.out HPI.out (by omega) (by omega)
        rw [hgx1] at HSC
        have HSC1 := Aside0.mk HSC
        clear HSC HX
        go_wp2_with (go_at_call 23; refine HSC1.out.mono ?_)
        rintro e W9 ⟨rfl, B9, hB9, HX9⟩
        have HX9 := Aside0.mk HX9
        have hbeg : x.stepF 0 1 0 = x.begin 1 := rfl
        obtain ⟨T, hT⟩ : ∃ T, x.top + 1 = T := ⟨_, rfl⟩
        have HE9 : Aside0 (EndA n T 0 (x.begin 1) (prNew (x.top + 1) 1 (nodesB x.n))) := by
          obtain ⟨vt, pv, h1⟩ := HPI.out
          have := EndA.start h1
          rw [hxn, hT] at this
          exact ⟨by rw [hxn, hT]; exact this⟩
        obtain ⟨L0, hL0⟩ : ∃ L0, x.said = L0 := ⟨_, rfl⟩
        have HI9 : Aside0 ((∃ vt pv, PaxI (x.begin 1) vt pv) ∧ (x.begin 1).top ≤ 300 + ((0 : Nat) : Int) ∧ (x.begin 1).said.length ≤ 300 + 0 ∧ ∀ s ∈ L0, s ∈ (x.begin 1).said) := ⟨by have := PaxI.stepF HPI.out 0 1 0; rw [hbeg] at this; exact this, by show x.top + 1 ≤ _; omega, by show x.said.length ≤ _; omega, fun s hs => by show s ∈ x.said; rw [hL0]; exact hs⟩
        have HT2 : Aside0 (1 ≤ T ∧ T ≤ 9007199254740991) := ⟨by omega, by omega⟩
        rw [hbeg] at HX9
        rw [hL0] at H8 ⊢
        obtain ⟨K0, hK0⟩ : ∃ K0, B1.ke = K0 := ⟨_, rfl⟩
        have hgK : K0.1 = gx := by rw [← hK0]; exact hgx1
        have hf1 : B1.gf = K0.2.1 := congrArg (·.2.1) hK0
        have hf2 : B1.fs = K0.2.2 := congrArg (·.2.2) hK0
        rw [hK0] at hB9
        rw [hf1, hf2] at H8
        clear hf1 hf2 hK0 HX8 HSC1 HPI ht0 htop2 hsl2 hbeg hT hmo hB1 hgx1
        go_wp2
        go_loopg [9] (n + 1) (fun kq v9 W => ∃ (k : Nat) (x : PxS) (p : PrS) (B : PxB), k ≤ n ∧ v9 = .int .i64 (k : Int) ∧ n - k < kq ∧ B.ke = K0 ∧ Aside0 (PxIs w W B x) ∧ Aside0 (EndA n T k x p) ∧ Aside0 ((∃ vt pv, PaxI x vt pv) ∧ x.top ≤ 300 + k ∧ x.said.length ≤ 300 + k ∧ ∀ s ∈ L0, s ∈ x.said))
        case atStart => exact ⟨0, _, _, _, Nat.zero_le _, rfl, by omega, hB9, HX9, HE9, HI9⟩
        case round =>
          obtain ⟨k, x, p, B, hk, rfl, hq, hkB, HX, HE, HI⟩ := hrel
          clear HX9 HE9 HI9 hB9
          have hgB : B.gx = gx := (congrArg (·.1) hkB).trans hgK
          have hcX0 : wr.cell? ⟨gx, 0, none⟩ = some (.int .i64 (n : Int)) := by rw [← hgB, ← HE.out.xn]; exact (blk_cell HX.out.X 0).trans rfl
          by_cases hkn : k < n
          · have hd4 : decide ((k : Int) < (n : Int)) = true := decide_eq_true (by omega)
            have HSC := step_calls w wr B x 1 1 (k : Int) (by decide) (by decide) (by rw [inB_iff]; omega) HX.out HI.out.1 (by have := HI.out.2.1; omega) (by have := HI.out.2.2.1; omega)
            rw [hgB] at HSC
            have HSC1 := Aside0.mk HSC
            clear HSC
            go_wp2_with (go_at_call 23; refine HSC1.out.mono ?_)
            rintro e W5 ⟨rfl, B5, hB5, HX5⟩
            have HX5 := Aside0.mk HX5
            have hst := x.stepF_top 1 1 (k : Int)
            have HI5 := Aside0.mk (And.intro (PaxI.stepF HI.out.1 1 1 (k : Int)) (And.intro (show (x.stepF 1 1 (k : Int)).top ≤ 300 + ((k + 1 : Nat) : Int) by have := HI.out.2.1; omega) (And.intro (show (x.stepF 1 1 (k : Int)).said.length ≤ 300 + (k + 1) by have := HI.out.2.2.1; omega) (fun s hs => x.stepF_said 1 1 (k : Int) s (HI.out.2.2.2 s hs)))))
            obtain ⟨p5, hE5⟩ := HE.out.step hn7 hkn HT2.out
            have HE5 := Aside0.mk hE5
            clear hE5 hst HSC1 HX HI HE hcX0
            go_wp2
            go_roundg (n - k)
            case rel => exact ⟨k + 1, _, p5, B5, by omega, by first | go_num | (congr 1; omega) | rfl, by omega, hB5.trans hkB, HX5, HE5, HI5⟩
            case measure => omega
          · have hkn2 : k = n := by omega
            rw [hkn2] at HE HI
            have hd3 : decide ((k : Int) < (n : Int)) = false := decide_eq_false (by omega)
            have HX9 := HX
            have HE9 := Aside0.mk HE.out.toB
            have HI9 : Aside0 ((∃ vt pv, PaxI x vt pv) ∧ x.top ≤ 400 + ((0 : Nat) : Int) ∧ x.said.length ≤ 400 + 0 ∧ ∀ s ∈ L0, s ∈ x.said) := ⟨HI.out.1, by have := HI.out.2.1; omega, by have := HI.out.2.2.1; omega, HI.out.2.2.2⟩
            have hB9 := hkB
            go_wp2
            clear HX HE HI hkB hgB hcX0 hkn hkn2 hd3
            go_loopg [10] (n + 1) (fun kq v10 W => ∃ (k : Nat) (x : PxS) (p : PrS) (B : PxB), k ≤ n ∧ v10 = .int .i64 (k : Int) ∧ n - k < kq ∧ B.ke = K0 ∧ Aside0 (PxIs w W B x) ∧ Aside0 (EndB n T k x p) ∧ Aside0 ((∃ vt pv, PaxI x vt pv) ∧ x.top ≤ 400 + k ∧ x.said.length ≤ 400 + k ∧ ∀ s ∈ L0, s ∈ x.said))
            case atStart => exact ⟨0, _, _, _, Nat.zero_le _, rfl, by omega, hB9, HX9, HE9, HI9⟩
            case round =>
              obtain ⟨k, x, p, B, hk, rfl, hq, hkB, HX, HE, HI⟩ := hrel
              clear HX9 HE9 HI9 hB9
              have hgB : B.gx = gx := (congrArg (·.1) hkB).trans hgK
              have hcX0 : wr.cell? ⟨gx, 0, none⟩ = some (.int .i64 (n : Int)) := by rw [← hgB, ← HE.out.xn]; exact (blk_cell HX.out.X 0).trans rfl
              by_cases hkn : k < n
              · have hd4 : decide ((k : Int) < (n : Int)) = true := decide_eq_true (by omega)
                have HSC := step_calls w wr B x 2 1 (k : Int) (by decide) (by decide) (by rw [inB_iff]; omega) HX.out HI.out.1 (by have := HI.out.2.1; omega) (by have := HI.out.2.2.1; omega)
                rw [hgB] at HSC
                have HSC1 := Aside0.mk HSC
                clear HSC
                go_wp2_with (go_at_call 23; refine HSC1.out.mono ?_)
                rintro e W5 ⟨rfl, B5, hB5, HX5⟩
                have HX5 := Aside0.mk HX5
                have hst := x.stepF_top 2 1 (k : Int)
                have HI5 := Aside0.mk (And.intro (PaxI.stepF HI.out.1 2 1 (k : Int)) (And.intro (show (x.stepF 2 1 (k : Int)).top ≤ 400 + ((k + 1 : Nat) : Int) by have := HI.out.2.1; omega) (And.intro (show (x.stepF 2 1 (k : Int)).said.length ≤ 400 + (k + 1) by have := HI.out.2.2.1; omega) (fun s hs => x.stepF_said 2 1 (k : Int) s (HI.out.2.2.2 s hs)))))
                obtain ⟨p5, hE5⟩ := HE.out.step hn7 hkn HT2.out
                have HE5 := Aside0.mk hE5
                clear hE5 hst HSC1 HX HI HE hcX0
                go_wp2
                go_roundg (n - k)
                case rel => exact ⟨k + 1, _, p5, B5, by omega, by first | go_num | (congr 1; omega) | rfl, by omega, hB5.trans hkB, HX5, HE5, HI5⟩
                case measure => omega
              · have hkn2 : k = n := by omega
                rw [hkn2] at HE HI
                have hd3 : decide ((k : Int) < (n : Int)) = false := decide_eq_false (by omega)
                obtain ⟨gp, hgp1, hgp2⟩ := HX.out.ptr1 HE.out.w
                have hcX3 : wr.cell? ⟨gx, 3, none⟩ = some (.slice (some ⟨B.gw, 0, none⟩) 3 3) := by rw [← hgB]; exact (blk_cell HX.out.X 3).trans rfl
                have HGP := Aside0.mk hgp2
                have hst2 : p.st = 2 := by
                  rcases HE.out.st with ⟨h0, _⟩ | ⟨_, _, h0⟩
                  · omega
                  · exact h0 (by omega)
                have HDV := Aside0.mk (fun s hs => PaxI.decided HI.out.1 HE.out.w hst2 (HI.out.2.2.2 s hs))
                have HSV : Aside0 (∀ W, PrIs W gp p → Calls Tryd.prog 20 #[.pointer (some ⟨gp, 0, none⟩)] W fun e w' => e = .returned (.int .i64 2) ∧ w' = W) := ⟨fun W hW => by have := state_calls gp p W hW; rw [hst2] at this; exact this⟩
                have HVV : Aside0 (∀ W, PrIs W gp p → Calls Tryd.prog 21 #[.pointer (some ⟨gp, 0, none⟩)] W fun e w' => e = .returned (.string p.val) ∧ w' = W) := ⟨fun W hW => value_calls gp p W hW⟩
                have hfr : ∀ s, B.fs[0]? = some (.string s) → wr.cell? ⟨B.gf, 0, none⟩ = some (.string s) := fun s hs => (blk_cell HX.out.F 0).trans hs
                have hgf : B.gf = K0.2.1 := congrArg (·.2.1) hkB
                have hfs : B.fs = K0.2.2 := congrArg (·.2.2) hkB
                clear hgp2 HE HI hkn2 hst2
                rcases H8.out with h0 | ⟨s, e8, hs1, hs2⟩
                · have hm0 : L0.length = 0 := by rw [h0]; rfl
                  rw [hm0]
                  clear hfr hgf hfs H8 h0 HDV hm0
                  go_wp2_with (go_at_call 20; refine (HSV.out _ HGP.out).mono ?_; rintro e W11 ⟨rfl, rfl⟩)
                  go_quiet (fail)
                  go_wp2
                  go_ret
                  exact ⟨rfl, (HX.out.drewN _).Bl⟩
                · have hm0 : 0 < L0.length := List.length_pos_of_mem hs2
                  have hcs := hfr s (by rw [hfs]; exact hs1)
                  rw [hgf] at hcs
                  rw [HDV.out s hs2] at HVV
                  subst e8
                  clear hfr hgf hfs H8 HDV hs1 hs2
                  generalize L0.length = m0 at hm0 ⊢
                  generalize K0.2.1 = gf at hcs ⊢
                  have hm1_ : (0 : Int) < (m0 : Int) := by omega
                  have hm2_ : ((m0 : Int) == 0) = false := by rw [beq_eq_false_iff_ne]; omega
                  have HVQ : Aside0 (∀ n, Calls Tryd.prog 21 #[.pointer (some ⟨gp, 0, none⟩)] (wr.drewN n) fun e w'' => e = .returned (.string s) ∧ ∃ m, w'' = wr.drewN m) := ⟨fun n => (HVV.out _ (HGP.out.below (pw_below_drewN (Below.refl _ _) n))).mono (fun e w' h => ⟨h.1, n, h.2⟩)⟩
                  go_wp2_with (go_at_call 20; refine (HSV.out _ HGP.out).mono ?_; rintro e W11 ⟨rfl, rfl⟩)
                  go_quiet (first | (go_at_call 21; exact HVQ.out _))
                  go_wp2
                  go_ret
                  exact ⟨rfl, (HX.out.drewN _).Bl⟩
      · have hd1 : decide ((i : Int) < (l1.length : Int)) = false := decide_eq_false (by omega)
        obtain ⟨hI0, htop, hsl, hxn⟩ := HI.out
        have HPI := Aside0.mk hI0
        have ht0 : 0 ≤ x.top := by obtain ⟨vt, pv, h1⟩ := hI0; exact h1.top0
        have htop2 : x.top ≤ 200 := by omega
        have hsl2 : x.said.length ≤ 200 := by omega
        clear hI0 htop hsl HI hq
        obtain ⟨Ao, co, eo, hco, hCo⟩ := Kd.R_reads HX.out.S
        have hmo := Kd.C_max hCo
        have hcX6 : wr.cell? ⟨gx, 6, none⟩ = some (.slice Ao x.said.length co) := by rw [← hgB, ← eo]; exact (blk_cell HX.out.X 6).trans rfl
        have HCO := Aside0.mk hCo
        clear eo hCo
        have hszw := HX.out.Bl.size
        go_wp2_with ((with_reducible refine gate_builtin (b := .append) (xs := #[.const (.slice none 0 0), .tmp 48]) rfl ?_); at_builtin; refine Kd.R_append_row Value.string ⟨#[]⟩ (h1 := fun _ => rfl) (w0 := w) w.heap.size rfl (.const (.slice none 0 0)) (.tmp 48) 58 9 (.string ⟨#[]⟩) 16 rfl Tryd.underlying58 infoStr rfl (by decide) (.slice none 0 0) [] x.said Ao x.said.length co (fun _ => True) rfl rfl (fun _ _ => trivial) (Kd.R_nil _ _ _ _ _) HCO.out HX.out.Bl hszw (by simp only [List.length_nil, Nat.zero_add]; omega) ?_)
        intro v1 W8 hR8 hb8 hg8 hat8
        obtain ⟨B1, A8, c8, hB1, hX8, rfl, h8⟩ := HX.out.copied hg8 hat8 hR8
        have HX8 := Aside0.mk hX8
        have H8 := Aside0.mk h8
        clear hX8 h8 hR8 hb8 hg8 hat8 hcX6 HCO hszw hlt hl
        have hgx1 : B1.gx = gx := hB1.trans hgB
        have HSC := step_calls w W8 B1 x 0 1 0 (by decide) (by decide) (by decide) HX8.out HPI.out (by omega) (by omega)
        rw [hgx1] at HSC
        have HSC1 := Aside0.mk HSC
        clear HSC HX
        go_wp2_with (go_at_call 23; refine HSC1.out.mono ?_)
        rintro e W9 ⟨rfl, B9, hB9, HX9⟩
        have HX9 := Aside0.mk HX9
        have hbeg : x.stepF 0 1 0 = x.begin 1 := rfl
        obtain ⟨T, hT⟩ : ∃ T, x.top + 1 = T := ⟨_, rfl⟩
        have HE9 : Aside0 (EndA n T 0 (x.begin 1) (prNew (x.top + 1) 1 (nodesB x.n))) := by
          obtain ⟨vt, pv, h1⟩ := HPI.out
          have := EndA.start h1
          rw [hxn, hT] at this
          exact ⟨by rw [hxn, hT]; exact this⟩
        obtain ⟨L0, hL0⟩ : ∃ L0, x.said = L0 := ⟨_, rfl⟩
        have HI9 : Aside0 ((∃ vt pv, PaxI (x.begin 1) vt pv) ∧ (x.begin 1).top ≤ 300 + ((0 : Nat) : Int) ∧ (x.begin 1).said.length ≤ 300 + 0 ∧ ∀ s ∈ L0, s ∈ (x.begin 1).said) := ⟨by have := PaxI.stepF HPI.out 0 1 0; rw [hbeg] at this; exact this, by show x.top + 1 ≤ _; omega, by show x.said.length ≤ _; omega, fun s hs => by show s ∈ x.said; rw [hL0]; exact hs⟩
        have HT2 : Aside0 (1 ≤ T ∧ T ≤ 9007199254740991) := ⟨by omega, by omega⟩
        rw [hbeg] at HX9
        rw [hL0] at H8 ⊢
        obtain ⟨K0, hK0⟩ : ∃ K0, B1.ke = K0 := ⟨_, rfl⟩
        have hgK : K0.1 = gx := by rw [← hK0]; exact hgx1
        have hf1 : B1.gf = K0.2.1 := congrArg (·.2.1) hK0
        have hf2 : B1.fs = K0.2.2 := congrArg (·.2.2) hK0
        rw [hK0] at hB9
        rw [hf1, hf2] at H8
        clear hf1 hf2 hK0 HX8 HSC1 HPI ht0 htop2 hsl2 hbeg hT hmo hB1 hgx1
        go_wp2
        go_loopg [9] (n + 1) (fun kq v9 W => ∃ (k : Nat) (x : PxS) (p : PrS) (B : PxB), k ≤ n ∧ v9 = .int .i64 (k : Int) ∧ n - k < kq ∧ B.ke = K0 ∧ Aside0 (PxIs w W B x) ∧ Aside0 (EndA n T k x p) ∧ Aside0 ((∃ vt pv, PaxI x vt pv) ∧ x.top ≤ 300 + k ∧ x.said.length ≤ 300 + k ∧ ∀ s ∈ L0, s ∈ x.said))
        case atStart => exact ⟨0, _, _, _, Nat.zero_le _, rfl, by omega, hB9, HX9, HE9, HI9⟩
        case round =>
          obtain ⟨k, x, p, B, hk, rfl, hq, hkB, HX, HE, HI⟩ := hrel
          clear HX9 HE9 HI9 hB9
          have hgB : B.gx = gx := (congrArg (·.1) hkB).trans hgK
          have hcX0 : wr.cell? ⟨gx, 0, none⟩ = some (.int .i64 (n : Int)) := by rw [← hgB, ← HE.out.xn]; exact (blk_cell HX.out.X 0).trans rfl
          by_cases hkn : k < n
          · have hd4 : decide ((k : Int) < (n : Int)) = true := decide_eq_true (by omega)
            have HSC := step_calls w wr B x 1 1 (k : Int) (by decide) (by decide) (by rw [inB_iff]; omega) HX.out HI.out.1 (by have := HI.out.2.1; omega) (by have := HI.out.2.2.1; omega)
            rw [hgB] at HSC
            have HSC1 := Aside0.mk HSC
            clear HSC
            go_wp2_with (go_at_call 23; refine HSC1.out.mono ?_)
            rintro e W5 ⟨rfl, B5, hB5, HX5⟩
            have HX5 := Aside0.mk HX5
            have hst := x.stepF_top 1 1 (k : Int)
            have HI5 := Aside0.mk (And.intro (PaxI.stepF HI.out.1 1 1 (k : Int)) (And.intro (show (x.stepF 1 1 (k : Int)).top ≤ 300 + ((k + 1 : Nat) : Int) by have := HI.out.2.1; omega) (And.intro (show (x.stepF 1 1 (k : Int)).said.length ≤ 300 + (k + 1) by have := HI.out.2.2.1; omega) (fun s hs => x.stepF_said 1 1 (k : Int) s (HI.out.2.2.2 s hs)))))
            obtain ⟨p5, hE5⟩ := HE.out.step hn7 hkn HT2.out
            have HE5 := Aside0.mk hE5
            clear hE5 hst HSC1 HX HI HE hcX0
            go_wp2
            go_roundg (n - k)
            case rel => exact ⟨k + 1, _, p5, B5, by omega, by first | go_num | (congr 1; omega) | rfl, by omega, hB5.trans hkB, HX5, HE5, HI5⟩
            case measure => omega
          · have hkn2 : k = n := by omega
            rw [hkn2] at HE HI
            have hd3 : decide ((k : Int) < (n : Int)) = false := decide_eq_false (by omega)
            have HX9 := HX
            have HE9 := Aside0.mk HE.out.toB
            have HI9 : Aside0 ((∃ vt pv, PaxI x vt pv) ∧ x.top ≤ 400 + ((0 : Nat) : Int) ∧ x.said.length ≤ 400 + 0 ∧ ∀ s ∈ L0, s ∈ x.said) := ⟨HI.out.1, by have := HI.out.2.1; omega, by have := HI.out.2.2.1; omega, HI.out.2.2.2⟩
            have hB9 := hkB
            go_wp2
            clear HX HE HI hkB hgB hcX0 hkn hkn2 hd3
            go_loopg [10] (n + 1) (fun kq v10 W => ∃ (k : Nat) (x : PxS) (p : PrS) (B : PxB), k ≤ n ∧ v10 = .int .i64 (k : Int) ∧ n - k < kq ∧ B.ke = K0 ∧ Aside0 (PxIs w W B x) ∧ Aside0 (EndB n T k x p) ∧ Aside0 ((∃ vt pv, PaxI x vt pv) ∧ x.top ≤ 400 + k ∧ x.said.length ≤ 400 + k ∧ ∀ s ∈ L0, s ∈ x.said))
            case atStart => exact ⟨0, _, _, _, Nat.zero_le _, rfl, by omega, hB9, HX9, HE9, HI9⟩
            case round =>
              obtain ⟨k, x, p, B, hk, rfl, hq, hkB, HX, HE, HI⟩ := hrel
              clear HX9 HE9 HI9 hB9
              have hgB : B.gx = gx := (congrArg (·.1) hkB).trans hgK
              have hcX0 : wr.cell? ⟨gx, 0, none⟩ = some (.int .i64 (n : Int)) := by rw [← hgB, ← HE.out.xn]; exact (blk_cell HX.out.X 0).trans rfl
              by_cases hkn : k < n
              · have hd4 : decide ((k : Int) < (n : Int)) = true := decide_eq_true (by omega)
                have HSC := step_calls w wr B x 2 1 (k : Int) (by decide) (by decide) (by rw [inB_iff]; omega) HX.out HI.out.1 (by have := HI.out.2.1; omega) (by have := HI.out.2.2.1; omega)
                rw [hgB] at HSC
                have HSC1 := Aside0.mk HSC
                clear HSC
                go_wp2_with (go_at_call 23; refine HSC1.out.mono ?_)
                rintro e W5 ⟨rfl, B5, hB5, HX5⟩
                have HX5 := Aside0.mk HX5
                have hst := x.stepF_top 2 1 (k : Int)
                have HI5 := Aside0.mk (And.intro (PaxI.stepF HI.out.1 2 1 (k : Int)) (And.intro (show (x.stepF 2 1 (k : Int)).top ≤ 400 + ((k + 1 : Nat) : Int) by have := HI.out.2.1; omega) (And.intro (show (x.stepF 2 1 (k : Int)).said.length ≤ 400 + (k + 1) by have := HI.out.2.2.1; omega) (fun s hs => x.stepF_said 2 1 (k : Int) s (HI.out.2.2.2 s hs)))))
                obtain ⟨p5, hE5⟩ := HE.out.step hn7 hkn HT2.out
                have HE5 := Aside0.mk hE5
                clear hE5 hst HSC1 HX HI HE hcX0
                go_wp2
                go_roundg (n - k)
                case rel => exact ⟨k + 1, _, p5, B5, by omega, by first | go_num | (congr 1; omega) | rfl, by omega, hB5.trans hkB, HX5, HE5, HI5⟩
                case measure => omega
              · have hkn2 : k = n := by omega
                rw [hkn2] at HE HI
                have hd3 : decide ((k : Int) < (n : Int)) = false := decide_eq_false (by omega)
                obtain ⟨gp, hgp1, hgp2⟩ := HX.out.ptr1 HE.out.w
                have hcX3 : wr.cell? ⟨gx, 3, none⟩ = some (.slice (some ⟨B.gw, 0, none⟩) 3 3) := by rw [← hgB]; exact (blk_cell HX.out.X 3).trans rfl
                have HGP := Aside0.mk hgp2
                have hst2 : p.st = 2 := by
                  rcases HE.out.st with ⟨h0, _⟩ | ⟨_, _, h0⟩
                  · omega
                  · exact h0 (by omega)
                have HDV := Aside0.mk (fun s hs => PaxI.decided HI.out.1 HE.out.w hst2 (HI.out.2.2.2 s hs))
                have HSV : Aside0 (∀ W, PrIs W gp p → Calls Tryd.prog 20 #[.pointer (some ⟨gp, 0, none⟩)] W fun e w' => e = .returned (.int .i64 2) ∧ w' = W) := ⟨fun W hW => by have := state_calls gp p W hW; rw [hst2] at this; exact this⟩
                have HVV : Aside0 (∀ W, PrIs W gp p → Calls Tryd.prog 21 #[.pointer (some ⟨gp, 0, none⟩)] W fun e w' => e = .returned (.string p.val) ∧ w' = W) := ⟨fun W hW => value_calls gp p W hW⟩
                have hfr : ∀ s, B.fs[0]? = some (.string s) → wr.cell? ⟨B.gf, 0, none⟩ = some (.string s) := fun s hs => (blk_cell HX.out.F 0).trans hs
                have hgf : B.gf = K0.2.1 := congrArg (·.2.1) hkB
                have hfs : B.fs = K0.2.2 := congrArg (·.2.2) hkB
                clear hgp2 HE HI hkn2 hst2
                rcases H8.out with h0 | ⟨s, e8, hs1, hs2⟩
                · have hm0 : L0.length = 0 := by rw [h0]; rfl
                  rw [hm0]
                  clear hfr hgf hfs H8 h0 HDV hm0
                  go_wp2_with (go_at_call 20; refine (HSV.out _ HGP.out).mono ?_; rintro e W11 ⟨rfl, rfl⟩)
                  go_quiet (fail)
                  go_wp2
                  go_ret
                  exact ⟨rfl, (HX.out.drewN _).Bl⟩
                · have hm0 : 0 < L0.length := List.length_pos_of_mem hs2
                  have hcs := hfr s (by rw [hfs]; exact hs1)
                  rw [hgf] at hcs
                  rw [HDV.out s hs2] at HVV
                  subst e8
                  clear hfr hgf hfs H8 HDV hs1 hs2
                  generalize L0.length = m0 at hm0 ⊢
                  generalize K0.2.1 = gf at hcs ⊢
                  have hm1_ : (0 : Int) < (m0 : Int) := by omega
                  have hm2_ : ((m0 : Int) == 0) = false := by rw [beq_eq_false_iff_ne]; omega
                  have HVQ : Aside0 (∀ n, Calls Tryd.prog 21 #[.pointer (some ⟨gp, 0, none⟩)] (wr.drewN n) fun e w'' => e = .returned (.string s) ∧ ∃ m, w'' = wr.drewN m) := ⟨fun n => (HVV.out _ (HGP.out.below (pw_below_drewN (Below.refl _ _) n))).mono (fun e w' h => ⟨h.1, n, h.2⟩)⟩
                  go_wp2_with (go_at_call 20; refine (HSV.out _ HGP.out).mono ?_; rintro e W11 ⟨rfl, rfl⟩)
                  go_quiet (first | (go_at_call 21; exact HVQ.out _))
                  go_wp2
                  go_ret
                  exact ⟨rfl, (HX.out.drewN _).Bl⟩

end Go.Proofs.YtnmcknfkmelnbaaDoor.P
