import Derived.Test.YtnmcknfkmelnbaaDoorWalkR
import Derived.Test.YtnmcknfkmelnbaaDoorPx20
import Derived.Outline
import Derived.Laws.BitsAllLaws
import Derived.WalkSpells
import Derived.StillTailTactics
namespace Go.Proofs.YtnmcknfkmelnbaaDoor.P
open Go.RowKit Go.Proofs.YtnmcknfkmelnbaaDoorW.PrintWords Go.Proofs.YtnmcknfkmelnbaaDoorW.PrintLast Go.Proofs.YtnmcknfkmelnbaaDoorW.PrintMore
attribute [local go_sem] max2_int min2_int max_two min_two max_three min_three max_four min_four
set_option linter.unusedVariables false
set_option linter.unusedSimpArgs false
/-- The nodes of a list, rising. -/
def filtL : Nat → List Int → List Int
  | 0, _ => []
  | k + 1, l => if (k : Int) ∈ l then filtL k l ++ [(k : Int)] else filtL k l
theorem filtL_len (k : Nat) (l : List Int) : (filtL k l).length ≤ k := by
  induction k with
  | zero => exact Nat.le_refl _
  | succ k ih =>
    unfold filtL
    split
    · rw [List.length_append, List.length_singleton]; omega
    · omega
theorem nodes_l0 (l : List Int) (K : Nat) (hl : (l.length : Int) < 9223372036854775807) : ∀ (d i k : Nat), i + d = 7 → d + l.length + 1 < k → carillonref11_Nodes.l0 k l (filtL i l) (i : Int) = some (filtL 7 l, decide ((filtL 7 l).length = l.length ∧ 1 ≤ l.length)) := by
  intro d
  induction d with
  | zero =>
    intro i k hi hk
    obtain rfl : i = 7 := by omega
    obtain ⟨k, rfl⟩ : ∃ j, k = j + 1 := ⟨k - 1, by omega⟩
    unfold carillonref11_Nodes.l0
    rw [if_neg (by decide)]
    by_cases h : (filtL 7 l).length = l.length
    · rw [if_pos (by omega)]
      by_cases h1 : 1 ≤ l.length
      · rw [decide_eq_true (show (filtL 7 l).length = l.length ∧ 1 ≤ l.length from ⟨h, h1⟩), decide_eq_true (by omega)]
      · rw [decide_eq_false (fun h2 : (filtL 7 l).length = l.length ∧ 1 ≤ l.length => h1 h2.2), decide_eq_false (by omega)]
    · rw [if_neg (by omega), decide_eq_false (fun h2 : (filtL 7 l).length = l.length ∧ 1 ≤ l.length => h h2.1)]
  | succ d ih =>
    intro i k hi hk
    obtain ⟨k, rfl⟩ : ∃ j, k = j + 1 := ⟨k - 1, by omega⟩
    unfold carillonref11_Nodes.l0
    have hlen := filtL_len i l
    have hs : wrap64 ((i : Int) + 1) = ((i + 1 : Nat) : Int) := by unfold wrap64; omega
    rw [if_pos (by omega), has_is l (i : Int) k hl (by omega), Option.bind_some, hs]
    have ih := ih (i + 1) k (by omega) (by omega)
    by_cases h : (i : Int) ∈ l
    · rw [decide_eq_true h, if_pos rfl, if_pos (by omega)]
      unfold filtL at ih
      rw [if_pos h] at ih
      exact ih
    · rw [decide_eq_false h, if_neg (by simp)]
      unfold filtL at ih
      rw [if_neg h] at ih
      exact ih
theorem nodes_is (l : List Int) (hl : (l.length : Int) < 9223372036854775807) : carillonref11_Nodes.f (l.length + 10) l = some (filtL 7 l, decide ((filtL 7 l).length = l.length ∧ 1 ≤ l.length)) := by
  unfold carillonref11_Nodes.f
  exact nodes_l0 l 0 hl 7 0 _ rfl (by omega)
/-- The reference's New. -/
def newR (r n : Int) (l : List Int) : Option RfS :=
  if ((filtL 7 l).length = l.length ∧ 1 ≤ l.length) ∧ RightP r n then some ⟨r, n, filtL 7 l, [], AcS.zero, [], 0, ⟨#[]⟩⟩ else none

attribute [local go_sem high] eqA23
/-- What the reference's New makes. -/
def RNewPost (w : World) (q : Option RfS) (e : Ending) (w' : World) : Prop :=
  Below w.heap.size w w' ∧ match q with
    | none => e = .returned (.pointer none)
    | some q => ∃ b g Vn, w.heap.size ≤ b ∧ e = .returned (.pointer (some ⟨g, 0, none⟩)) ∧ RfIs w' b g q Vn (.slice none 0 0) (.slice none 0 0)
theorem rnew_none {w : World} {q : Option RfS} {w' : World} (h : q = none) (hb : Below w.heap.size w w') : RNewPost w q (.returned (.pointer none)) w' := by
  subst h
  exact ⟨hb, rfl⟩
theorem rnew_some {w : World} {q : Option RfS} {w' : World} {p : RfS} {b g : Nat} {Vn : Value} (h : q = some p) (hb : Below w.heap.size w w') (hg : w.heap.size ≤ b) (hp : RfIs w' b g p Vn (.slice none 0 0) (.slice none 0 0)) : RNewPost w q (.returned (.pointer (some ⟨g, 0, none⟩))) w' := by
  subst h
  exact ⟨hb, b, g, Vn, hg, rfl, hp⟩
set_option maxHeartbeats 4000000 in
set_option maxRecDepth 100000 in
theorem rnew_gen (r n : Int) (A : Option Addr) (c : Nat) (l : List Int) (w : World) (HR : Aside0 (Kd.C (Kd.int .i64) w A l.length l)) (hc : l.length ≤ c) (b1 b2 : Bool) (q : Option RfS) (HQ : Aside0 (q = if b1 = true ∧ b2 = true then some ⟨r, n, filtL 7 l, [], AcS.zero, [], 0, ⟨#[]⟩⟩ else none))
    (HND : Aside0 (∀ W, Kd.C (Kd.int .i64) W A l.length l → Calls Tryd.prog 25 #[.slice A l.length c] W fun e w' => (∃ v0_ : Value, e = .returned (.tuple #[v0_, .bool b1]) ∧ Kd.R (Kd.int .i64) 3 w' W.heap.size (fun _ => True) v0_ (filtL 7 l)) ∧ Below W.heap.size W w'))
    (HRT : Aside0 (∀ W, Calls Tryd.prog 26 #[.agg #[.int .i64 r, .int .i64 n]] W fun e w' => e = .returned (.bool b2) ∧ Below W.heap.size W w')) :
    Calls Tryd.prog 9 #[.agg #[.int .i64 r, .int .i64 n], .slice A l.length c] w (RNewPost w q) := by
  have HB0 := Aside0.mk (below_alloc (Below.refl w.heap.size w) (.cells #[.int .i64 r, .int .i64 n] 23))
  go_enter Tryd.func9, Tryd.ntmps9
  go_wp2_with (go_at_call 25; refine (HND.out _ (Kd.C_alloc HR.out _)).mono ?_)
  rintro e W1 ⟨⟨v0, rfl, hR⟩, hb⟩
  obtain ⟨Ax, cx, ex⟩ := Kd.R_slice hR
  subst ex
  have hX := blk_below (heap_alloc_new w (.cells #[.int .i64 r, .int .i64 n] 23)) (hb.mono (by simp))
  have HB1 := Aside0.mk (HB0.out.trans (hb.mono (by simp)))
  rw [World.size_alloc] at hR
  have HRN := Aside0.mk hR
  have HX1 := Aside0.mk hX
  have hbl : w.heap.size + 1 ≤ W1.heap.size := by have := hb.size; simpa using this
  obtain ⟨b, hbe⟩ : ∃ b, w.heap.size + 1 = b := ⟨_, rfl⟩
  have hsz : w.heap.size ≤ b := by omega
  rw [hbe] at HRN hbl
  clear hR hb hX hbe
  obtain ⟨hx0, hx1, _, _⟩ := bx2 HX1.out
  go_wp2_with (go_at_call 26; refine (HRT.out _).mono ?_)
  rintro e W2 ⟨rfl, hb⟩
  have HB2 := Aside0.mk (HB1.out.trans (hb.mono HB1.out.size))
  have HRN2 := Aside0.mk (Kd.R_below HRN.out hb)
  have HX2 := Aside0.mk (blk_below HX1.out hb)
  have hbl2 := Nat.le_trans hbl hb.size
  clear hb hx0 hx1 HX1 HRN
  obtain ⟨hx0, hx1, _, _⟩ := bx2 HX2.out
  generalize hL : (filtL 7 l).length = L at *
  cases b1
  · go_wp2
    go_ret
    exact rnew_none (by rw [HQ.out]; rfl) HB2.out
  · cases b2
    · go_wp2
      go_ret
      exact rnew_none (by rw [HQ.out]; rfl) HB2.out
    · go_wp2
      go_ret
      refine rnew_some (b := b) (q := q) (p := ⟨r, n, filtL 7 l, [], AcS.zero, [], 0, ⟨#[]⟩⟩) (by rw [HQ.out]; rfl) (below_alloc HB2.out _) hsz ⟨heap_alloc_new W2 _, Kd.R_alloc HRN2.out _, Kd.R_nil _ _ _ _ _, Kd.R_nil _ _ _ _ _, hbl2⟩
theorem rnew_calls (r n : Int) (A : Option Addr) (c : Nat) (l : List Int) (w : World) (hr : Kd.C (Kd.int .i64) w A l.length l) (hc : l.length ≤ c) (hl : l.length ≤ 1000000000000000) :
    Calls Tryd.prog 9 #[.agg #[.int .i64 r, .int .i64 n], .slice A l.length c] w (RNewPost w (newR r n l)) := by
  have h := rnew_gen r n A c l w ⟨hr⟩ hc (decide ((filtL 7 l).length = l.length ∧ 1 ≤ l.length)) (decide (RightP r n)) _ ⟨rfl⟩
    ⟨fun W h => (carillonref11_Nodes.calls (l.length + 10) A c l _ _ W h hc (nodes_is l (by omega))).mono (fun e w' ⟨v, h1, h2, h3⟩ => ⟨⟨v, h1, h2⟩, h3⟩)⟩
    ⟨fun W => carillonref10_Right.calls r n _ W (rright_is r n)⟩
  unfold newR
  simp only [decide_eq_true_eq] at h
  exact h

/-- Which of the nodes are missing. -/
def RfS.misses (q : RfS) (n : Int) : Bool := !(decide (n ∈ if q.st = 0 then q.prom else q.cntd))
def RfS.missing (q : RfS) : List Int := q.nodes.filter q.misses
def RfS.missK (q : RfS) (k : Nat) : List Int := (q.nodes.take k).filter q.misses
theorem RfS.missK_succ (q : RfS) (L : List Int) (hL : (if q.st = 0 then q.prom else q.cntd) = L) (k : Nat) (y : Bool) (h : k < q.nodes.length) (hy : decide (rd q.nodes (k : Int) ∈ L) = y) : q.missK (k + 1) = cond y (q.missK k) (q.missK k ++ [rd q.nodes (k : Int)]) := by
  unfold RfS.missK
  rw [List.take_succ_eq_append_getElem h, List.filter_append, show rd q.nodes (k : Int) = q.nodes[k] by simp [rd, List.getD_eq_getElem?_getD, List.getElem?_eq_getElem h]]
  have e : q.misses q.nodes[k] = !y := by
    unfold RfS.misses
    rw [hL, ← hy, show rd q.nodes (k : Int) = q.nodes[k] by simp [rd, List.getD_eq_getElem?_getD, List.getElem?_eq_getElem h]]
  cases y <;> simp [e]
theorem RfS.missK_le (q : RfS) (k : Nat) : (q.missK k).length ≤ k := by
  unfold RfS.missK
  exact Nat.le_trans (List.length_filter_le _ _) (by rw [List.length_take]; omega)
theorem RfIs.grownOut {w W W' : World} {b g : Nat} {q : RfS} {Vn Vp Vc : Value} (h0 : RfIs w b g q Vn Vp Vc) (h : RfIs W b g q Vn Vp Vc) {row : Option Nat} (hg : W.grownBy W' row) (hr : ∀ k, row = some k → w.heap.size ≤ k) : RfIs W' b g q Vn Vp Vc :=
  h.away (S := fun k => row = some k) ⟨hg.os, hg.tape, hg.output, hg.size, fun i hi hn => hg.block i hi (fun e => hn e.symm)⟩ (fun e => by have := hr _ e; have := h0.lt; omega) (fun k hk e => by have := hr _ e; have := Kd.R_lt h0.N k hk; omega) (fun k hk e => by have := hr _ e; have := Kd.R_lt h0.P k hk; omega) (fun k hk e => by have := hr _ e; have := Kd.R_lt h0.C k hk; omega)
/-- What Missing answers. -/
def RMissPost (w : World) (q : RfS) (e : Ending) (w' : World) : Prop := (∃ v, e = .returned v ∧ Kd.R (Kd.int .i64) 3 w' w.heap.size (fun _ => True) v q.missing) ∧ Below w.heap.size w w'
theorem rmiss_post {w : World} {q : RfS} {v : Value} {w' : World} (h : Kd.R (Kd.int .i64) 3 w' w.heap.size (fun _ => True) v q.missing) (hb : Below w.heap.size w w') : RMissPost w q (.returned v) w' := ⟨⟨v, rfl, h⟩, hb⟩
set_option maxHeartbeats 4000000 in
set_option maxRecDepth 100000 in
theorem rmiss_true (b g : Nat) (q : RfS) (Vn Vp Vc : Value) (w : World) (HP : Aside0 (RfIs w b g q Vn Vp Vc)) (hs : q.short) (c0 : (q.st == 0) = true) :
    Calls Tryd.prog 19 #[.pointer (some ⟨g, 0, none⟩)] w (RMissPost w q) := by
  have HKS := Aside0.mk (q.missK_succ q.prom (by rw [if_pos (beq_iff_eq.mp c0)]))
  obtain ⟨An, cn, en, hcn, hCn⟩ := Kd.R_reads HP.out.N
  obtain ⟨Ap, cp, ep, hcp, hCp⟩ := Kd.R_reads HP.out.P
  obtain ⟨Ac, cc, ec, hcc, hCc⟩ := Kd.R_reads HP.out.C
  obtain ⟨s1, s2, s3⟩ := hs
  subst en
  subst ep
  subst ec
  have HPR : Aside0 (∀ W x y, decide (x ∈ q.prom) = y → RfIs W b g q (.slice An q.nodes.length cn) (.slice Ap q.prom.length cp) (.slice Ac q.cntd.length cc) → Calls Tryd.prog 31 #[.slice Ap q.prom.length cp, .int .i64 x] W fun e w' => e = .returned (.bool y) ∧ ∃ m, w' = W.drewN m) := ⟨fun W x y hy h => hy ▸ has_calls Ap cp q.prom x W (Kd.R_reads' h.P).2.2 hcp s2⟩
  have HCR : Aside0 (∀ W x y, decide (x ∈ q.cntd) = y → RfIs W b g q (.slice An q.nodes.length cn) (.slice Ap q.prom.length cp) (.slice Ac q.cntd.length cc) → Calls Tryd.prog 31 #[.slice Ac q.cntd.length cc, .int .i64 x] W fun e w' => e = .returned (.bool y) ∧ ∃ m, w' = W.drewN m) := ⟨fun W x y hy h => hy ▸ has_calls Ac cc q.cntd x W (Kd.R_reads' h.C).2.2 hcc s3⟩
  have HKL := Aside0.mk (q.missK_le)
  have HKE := Aside0.mk (show q.missK q.nodes.length = q.missing by unfold RfS.missK RfS.missing; rw [List.take_length])
  have HCN : Aside0 (∀ W, RfIs W b g q (.slice An q.nodes.length cn) (.slice Ap q.prom.length cp) (.slice Ac q.cntd.length cc) → Kd.C (Kd.int .i64) W An q.nodes.length q.nodes) := ⟨fun W h => (Kd.R_reads' h.N).2.2⟩
  obtain ⟨n, hn⟩ : ∃ n, q.nodes.length = n := ⟨_, rfl⟩
  obtain ⟨m, hm⟩ : ∃ m, q.prom.length = m := ⟨_, rfl⟩
  obtain ⟨l, hl⟩ : ∃ l, q.cntd.length = l := ⟨_, rfl⟩
  simp only [hn, hm, hl] at HPR HCR HP s1 s2 s3 hcn hcp hcc HKS HKE HCN ⊢
  have HN := Aside0.mk hn
  clear hCn hCp hCc hn hm hl
  obtain ⟨h0, h1, h2, h3, h4, h5, h6, h7, h8, h9, h10, h11⟩ := HP.out.cells
  go_enter Tryd.func19, Tryd.ntmps19
  go_wp2
  clear h0 h1 h2 h3 h4 h5 h6 h7 h8 h9 h10 h11
  go_loopg [3, 4] (n + 1) (fun kq v3 v4 W => ∃ (k : Nat), k ≤ n ∧ v4 = .int .i64 (k : Int) ∧ n - k < kq ∧ Aside0 (RfIs W b g q (.slice An n cn) (.slice Ap m cp) (.slice Ac l cc)) ∧ Aside0 (Kd.R (Kd.int .i64) 3 W w.heap.size (fun _ => True) v3 (q.missK k)) ∧ Aside0 (Below w.heap.size w W))
  case atStart => exact ⟨0, by omega, rfl, by omega, HP, ⟨Kd.R_nil _ _ _ _ _⟩, ⟨Below.refl _ _⟩⟩
  case round =>
    obtain ⟨k, hk, rfl, hq, HPk, aa, HB⟩ := hrel
    rename World => Wr
    obtain ⟨h0, h1, h2, h3, h4, h5, h6, h7, h8, h9, h10, h11⟩ := HPk.out.cells
    by_cases hlt : k < n
    · obtain ⟨ad, e0, hx⟩ := Kd.at_int (HCN.out _ HPk.out) (k : Int) (by omega) (by omega)
      cases e0
      rw [show ((k : Int)).toNat = k from rfl] at hx
      have HL := Aside0.mk (HKL.out k)
      obtain ⟨yc, hyc⟩ : ∃ y, decide (rd q.nodes (k : Int) ∈ q.cntd) = y := ⟨_, rfl⟩
      obtain ⟨yp, hyp⟩ : ∃ y, decide (rd q.nodes (k : Int) ∈ q.prom) = y := ⟨_, rfl⟩
      have HS := Aside0.mk (HKS.out k yp hlt hyp)
      obtain ⟨x, hxx⟩ : ∃ x, rd q.nodes (k : Int) = x := ⟨_, rfl⟩
      rw [hxx] at hx hyc HS hyp
      have i0 : (0 : Int) ≤ (k : Int) := by omega
      have i1 : (k : Int) < (n : Int) := by omega
      have HCq : Aside0 (∀ a, _) := ⟨fun a => HCR.out (Wr.drewN a) x yc hyc (HPk.out.drewN a)⟩
      clear hyc hxx
      go_wp2
      go_quiet (first | (go_at_call 31; with_reducible exact Calls.quiet_of (HCq.out _)) | fail)
      have HPk2 := Aside0.mk (HPk.out.drewN nq)
      have aa2 := Aside0.mk (Kd.R_drewN aa.out nq)
      have HB2 := Aside0.mk (pw_below_drewN HB.out nq)
      have hx2 : (Wr.drewN nq).cell? (ad.add k) = some (.int .i64 x) := by simpa using hx
      clear h0 h1 h2 h3 h4 h5 h6 h7 h8 h9 h10 h11 hx HCq
      generalize Wr.drewN nq = W2 at HPk2 aa2 HB2 hx2 ⊢
      obtain ⟨h0, h1, h2, h3, h4, h5, h6, h7, h8, h9, h10, h11⟩ := HPk2.out.cells
      have HPq : Aside0 (∀ a, _) := ⟨fun a => HPR.out (W2.drewN a) x yp hyp (HPk2.out.drewN a)⟩
      clear hyp
      go_wp2
      go_quiet (first | (go_at_call 31; with_reducible exact Calls.quiet_of (HPq.out _)) | fail)
      have HPk3 := Aside0.mk (HPk2.out.drewN nq)
      have aa3 := Aside0.mk (Kd.R_drewN aa2.out nq)
      have HB3 := Aside0.mk (pw_below_drewN HB2.out nq)
      have hx3 : (W2.drewN nq).cell? (ad.add k) = some (.int .i64 x) := by simpa using hx2
      clear h0 h1 h2 h3 h4 h5 h6 h7 h8 h9 h10 h11 hx2 HPq
      generalize W2.drewN nq = W3 at HPk3 aa3 HB3 hx3 ⊢
      obtain ⟨h0, h1, h2, h3, h4, h5, h6, h7, h8, h9, h10, h11⟩ := HPk3.out.cells
      cases yp
      · dsimp only [cond_false] at HS
        go_wp2_with ((with_reducible refine gate_builtin (b := .append) (xs := #[.tmp 46, .tmp 54]) rfl ?_); at_builtin; refine Kd.R_append (Kd.int .i64) (w0 := w) w.heap.size rfl (.tmp 46) (.tmp 54) 24 3 (.int .i64 0) 8 rfl Tryd.underlying24 info3 rfl (by decide) (by omega) u3 (q.missK k) x [.int .i64 x] (fun _ => True) (fun _ => False) rfl rfl ?aP (fun _ hk => hk.elim) ?aF ?aO ?aB ?aS ?aL ?_)
        case aP => exact rfl
        case aB => exact HB3.out
        case aF => exact (fun _ _ => trivial)
        case aO => exact aa3.out
        case aS => exact HB3.out.size
        case aL => have := HL.out; omega
        intro v6 w6 ho hb hg hat
        have HP6 := Aside0.mk (RfIs.grownOut HP.out HPk3.out hg (Kd.R_base aa3.out))
        have n0_ := Aside0.mk hb
        have n1_ := Aside0.mk ho
        clear ho hb hg hat h0 h1 h2 h3 h4 h5 h6 h7 h8 h9 h10 h11 hx3
        go_wp2
        go_roundg (n - k)
        case rel => exact ⟨k + 1, by omega, by go_num, by omega, HP6, ⟨by rw [HS.out]; exact n1_.out⟩, n0_⟩
        case measure => omega
      · dsimp only [cond_true] at HS
        go_wp2
        go_roundg (n - k)
        case rel => exact ⟨k + 1, by omega, by go_num, by omega, HPk3, ⟨by rw [HS.out]; exact aa3.out⟩, HB3⟩
        case measure => omega
    · obtain rfl : k = n := by omega
      have HE := Aside0.mk (HKE.out ▸ aa.out)
      have hltf : decide ((k : Int) < (k : Int)) = false := decide_eq_false (by omega)
      go_wp2
      go_ret
      exact rmiss_post HE.out HB.out
set_option maxHeartbeats 4000000 in
set_option maxRecDepth 100000 in
theorem rmiss_false (b g : Nat) (q : RfS) (Vn Vp Vc : Value) (w : World) (HP : Aside0 (RfIs w b g q Vn Vp Vc)) (hs : q.short) (c0 : (q.st == 0) = false) :
    Calls Tryd.prog 19 #[.pointer (some ⟨g, 0, none⟩)] w (RMissPost w q) := by
  have HKS := Aside0.mk (q.missK_succ q.cntd (by rw [if_neg (beq_eq_false_iff_ne.mp c0)]))
  obtain ⟨An, cn, en, hcn, hCn⟩ := Kd.R_reads HP.out.N
  obtain ⟨Ap, cp, ep, hcp, hCp⟩ := Kd.R_reads HP.out.P
  obtain ⟨Ac, cc, ec, hcc, hCc⟩ := Kd.R_reads HP.out.C
  obtain ⟨s1, s2, s3⟩ := hs
  subst en
  subst ep
  subst ec
  have HPR : Aside0 (∀ W x y, decide (x ∈ q.prom) = y → RfIs W b g q (.slice An q.nodes.length cn) (.slice Ap q.prom.length cp) (.slice Ac q.cntd.length cc) → Calls Tryd.prog 31 #[.slice Ap q.prom.length cp, .int .i64 x] W fun e w' => e = .returned (.bool y) ∧ ∃ m, w' = W.drewN m) := ⟨fun W x y hy h => hy ▸ has_calls Ap cp q.prom x W (Kd.R_reads' h.P).2.2 hcp s2⟩
  have HCR : Aside0 (∀ W x y, decide (x ∈ q.cntd) = y → RfIs W b g q (.slice An q.nodes.length cn) (.slice Ap q.prom.length cp) (.slice Ac q.cntd.length cc) → Calls Tryd.prog 31 #[.slice Ac q.cntd.length cc, .int .i64 x] W fun e w' => e = .returned (.bool y) ∧ ∃ m, w' = W.drewN m) := ⟨fun W x y hy h => hy ▸ has_calls Ac cc q.cntd x W (Kd.R_reads' h.C).2.2 hcc s3⟩
  have HKL := Aside0.mk (q.missK_le)
  have HKE := Aside0.mk (show q.missK q.nodes.length = q.missing by unfold RfS.missK RfS.missing; rw [List.take_length])
  have HCN : Aside0 (∀ W, RfIs W b g q (.slice An q.nodes.length cn) (.slice Ap q.prom.length cp) (.slice Ac q.cntd.length cc) → Kd.C (Kd.int .i64) W An q.nodes.length q.nodes) := ⟨fun W h => (Kd.R_reads' h.N).2.2⟩
  obtain ⟨n, hn⟩ : ∃ n, q.nodes.length = n := ⟨_, rfl⟩
  obtain ⟨m, hm⟩ : ∃ m, q.prom.length = m := ⟨_, rfl⟩
  obtain ⟨l, hl⟩ : ∃ l, q.cntd.length = l := ⟨_, rfl⟩
  simp only [hn, hm, hl] at HPR HCR HP s1 s2 s3 hcn hcp hcc HKS HKE HCN ⊢
  have HN := Aside0.mk hn
  clear hCn hCp hCc hn hm hl
  obtain ⟨h0, h1, h2, h3, h4, h5, h6, h7, h8, h9, h10, h11⟩ := HP.out.cells
  go_enter Tryd.func19, Tryd.ntmps19
  go_wp2
  clear h0 h1 h2 h3 h4 h5 h6 h7 h8 h9 h10 h11
  go_loopg [3, 4] (n + 1) (fun kq v3 v4 W => ∃ (k : Nat), k ≤ n ∧ v4 = .int .i64 (k : Int) ∧ n - k < kq ∧ Aside0 (RfIs W b g q (.slice An n cn) (.slice Ap m cp) (.slice Ac l cc)) ∧ Aside0 (Kd.R (Kd.int .i64) 3 W w.heap.size (fun _ => True) v3 (q.missK k)) ∧ Aside0 (Below w.heap.size w W))
  case atStart => exact ⟨0, by omega, rfl, by omega, HP, ⟨Kd.R_nil _ _ _ _ _⟩, ⟨Below.refl _ _⟩⟩
  case round =>
    obtain ⟨k, hk, rfl, hq, HPk, aa, HB⟩ := hrel
    rename World => Wr
    obtain ⟨h0, h1, h2, h3, h4, h5, h6, h7, h8, h9, h10, h11⟩ := HPk.out.cells
    by_cases hlt : k < n
    · obtain ⟨ad, e0, hx⟩ := Kd.at_int (HCN.out _ HPk.out) (k : Int) (by omega) (by omega)
      cases e0
      rw [show ((k : Int)).toNat = k from rfl] at hx
      have HL := Aside0.mk (HKL.out k)
      obtain ⟨yc, hyc⟩ : ∃ y, decide (rd q.nodes (k : Int) ∈ q.cntd) = y := ⟨_, rfl⟩
      have HS := Aside0.mk (HKS.out k yc hlt hyc)
      obtain ⟨x, hxx⟩ : ∃ x, rd q.nodes (k : Int) = x := ⟨_, rfl⟩
      rw [hxx] at hx hyc HS
      have i0 : (0 : Int) ≤ (k : Int) := by omega
      have i1 : (k : Int) < (n : Int) := by omega
      have HCq : Aside0 (∀ a, _) := ⟨fun a => HCR.out (Wr.drewN a) x yc hyc (HPk.out.drewN a)⟩
      clear hyc hxx
      go_wp2
      go_quiet (first | (go_at_call 31; with_reducible exact Calls.quiet_of (HCq.out _)) | fail)
      have HPk2 := Aside0.mk (HPk.out.drewN nq)
      have aa2 := Aside0.mk (Kd.R_drewN aa.out nq)
      have HB2 := Aside0.mk (pw_below_drewN HB.out nq)
      have hx2 : (Wr.drewN nq).cell? (ad.add k) = some (.int .i64 x) := by simpa using hx
      clear h0 h1 h2 h3 h4 h5 h6 h7 h8 h9 h10 h11 hx HCq
      generalize Wr.drewN nq = W2 at HPk2 aa2 HB2 hx2 ⊢
      obtain ⟨h0, h1, h2, h3, h4, h5, h6, h7, h8, h9, h10, h11⟩ := HPk2.out.cells
      cases yc
      · dsimp only [cond_false] at HS
        go_wp2_with ((with_reducible refine gate_builtin (b := .append) (xs := #[.tmp 46, .tmp 54]) rfl ?_); at_builtin; refine Kd.R_append (Kd.int .i64) (w0 := w) w.heap.size rfl (.tmp 46) (.tmp 54) 24 3 (.int .i64 0) 8 rfl Tryd.underlying24 info3 rfl (by decide) (by omega) u3 (q.missK k) x [.int .i64 x] (fun _ => True) (fun _ => False) rfl rfl ?aP (fun _ hk => hk.elim) ?aF ?aO ?aB ?aS ?aL ?_)
        case aP => exact rfl
        case aB => exact HB2.out
        case aF => exact (fun _ _ => trivial)
        case aO => exact aa2.out
        case aS => exact HB2.out.size
        case aL => have := HL.out; omega
        intro v6 w6 ho hb hg hat
        have HP6 := Aside0.mk (RfIs.grownOut HP.out HPk2.out hg (Kd.R_base aa2.out))
        have n0_ := Aside0.mk hb
        have n1_ := Aside0.mk ho
        clear ho hb hg hat h0 h1 h2 h3 h4 h5 h6 h7 h8 h9 h10 h11 hx2
        go_wp2
        go_roundg (n - k)
        case rel => exact ⟨k + 1, by omega, by go_num, by omega, HP6, ⟨by rw [HS.out]; exact n1_.out⟩, n0_⟩
        case measure => omega
      · dsimp only [cond_true] at HS
        go_wp2
        go_roundg (n - k)
        case rel => exact ⟨k + 1, by omega, by go_num, by omega, HPk2, ⟨by rw [HS.out]; exact aa2.out⟩, HB2⟩
        case measure => omega
    · obtain rfl : k = n := by omega
      have HE := Aside0.mk (HKE.out ▸ aa.out)
      have hltf : decide ((k : Int) < (k : Int)) = false := decide_eq_false (by omega)
      go_wp2
      go_ret
      exact rmiss_post HE.out HB.out
theorem rmiss_calls (b g : Nat) (q : RfS) (Vn Vp Vc : Value) (w : World) (h : RfIs w b g q Vn Vp Vc) (hs : q.short) :
    Calls Tryd.prog 19 #[.pointer (some ⟨g, 0, none⟩)] w (RMissPost w q) := by
  by_cases c : q.st = 0
  · exact rmiss_true b g q Vn Vp Vc w ⟨h⟩ hs (beq_iff_eq.mpr c)
  · exact rmiss_false b g q Vn Vp Vc w ⟨h⟩ hs (beq_eq_false_iff_ne.mpr c)

/-- The program's proposer and the reference's do the same. -/
structure PrRf (p : PrS) (q : RfS) : Prop where
  l1 : p.nodes.length = 7
  l2 : p.prom.length = 7
  l3 : p.cntd.length = 7
  r : p.r = q.r
  n : p.n = q.n
  nodes : q.nodes = ((List.range 7).filter fun i => p.nodes.getD i false).map Int.ofNat
  prom : ∀ i : Nat, i < 7 → (p.prom.getD i false = true ↔ (i : Int) ∈ q.prom)
  promN : q.prom.length = bcnt p.prom
  cntd : ∀ i : Nat, i < 7 → (p.cntd.getD i false = true ↔ (i : Int) ∈ q.cntd)
  cntdN : q.cntd.length = bcnt p.cntd
  best : p.best = q.best
  st : p.st = q.st
  st3 : p.st = 0 ∨ p.st = 1 ∨ p.st = 2
  val : p.val = q.val
theorem bcnt_filter {α : Type} (f : α → Bool) (l : List α) : bcnt (l.map f) = (l.filter f).length := by
  unfold bcnt
  induction l with
  | nil => rfl
  | cons a l ih => cases h : f a <;> simp [h, ih]
theorem list_range {l : List Bool} (h : l.length = 7) : l = (List.range 7).map fun i => l.getD i false := by
  obtain ⟨a, b, c, d, e, f, g, rfl⟩ := list7 h
  rfl
theorem bcnt_range {l : List Bool} (h : l.length = 7) : bcnt l = ((List.range 7).filter fun i => l.getD i false).length := by
  rw [← bcnt_filter, ← list_range h]
theorem getD_set (l : List Bool) (k i : Nat) (h : k < l.length) : (l.set k true).getD i false = (l.getD i false || decide (i = k)) := by
  rw [List.getD_eq_getElem?_getD, List.getD_eq_getElem?_getD, List.getElem?_set]
  by_cases e : k = i
  · subst e
    simp [h]
  · rw [if_neg e, decide_eq_false (fun h => e h.symm), Bool.or_false]
theorem bcnt_set (l : List Bool) (k : Nat) (h : l.getD k false = false) (hk : k < l.length) : bcnt (l.set k true) = bcnt l + 1 := by
  unfold bcnt
  induction l generalizing k with
  | nil => exact absurd hk (by simp)
  | cons a l ih =>
    cases k with
    | zero => have e : a = false := h; subst e; simp
    | succ k =>
      rw [List.set_cons_succ, List.count_cons, List.count_cons, ih k h (by simpa using hk)]
      omega
theorem mem_ofNat {x : Int} {f : Nat → Bool} : x ∈ ((List.range 7).filter f).map Int.ofNat ↔ (0 ≤ x ∧ x < 7) ∧ f x.toNat = true := by
  constructor
  · intro h
    obtain ⟨i, hi, rfl⟩ := List.mem_map.1 h
    obtain ⟨h1, h2⟩ := List.mem_filter.1 hi
    have := List.mem_range.1 h1
    exact ⟨⟨by show (0 : Int) ≤ (i : Int); omega, by show (i : Int) < 7; omega⟩, h2⟩
  · rintro ⟨⟨h1, h2⟩, h3⟩
    exact List.mem_map.2 ⟨x.toNat, List.mem_filter.2 ⟨List.mem_range.2 (by omega), h3⟩, by show ((x.toNat : Nat) : Int) = x; omega⟩
namespace PrRf
variable {p : PrS} {q : RfS}
theorem mem (h : PrRf p q) (x : Int) : x ∈ q.nodes ↔ bhas p.nodes x = true := by
  rw [h.nodes, mem_ofNat]
  unfold bhas
  simp
theorem len (h : PrRf p q) : q.nodes.length = bcnt p.nodes := by rw [h.nodes, List.length_map, bcnt_range h.l1]
theorem short (h : PrRf p q) : q.short := by
  have h1 := bcnt_le7 _ h.l1
  have h2 := bcnt_le7 _ h.l2
  have h3 := bcnt_le7 _ h.l3
  exact ⟨by rw [h.len]; omega, by rw [h.promN]; omega, by rw [h.cntdN]; omega⟩
theorem inProm (h : PrRf p q) {x : Int} (h0 : 0 ≤ x) (h7 : x < 7) : x ∈ q.prom ↔ p.prom.getD x.toNat false = true := by
  have := h.prom x.toNat (by omega)
  rw [show ((x.toNat : Nat) : Int) = x by omega] at this
  exact this.symm
theorem inCntd (h : PrRf p q) {x : Int} (h0 : 0 ≤ x) (h7 : x < 7) : x ∈ q.cntd ↔ p.cntd.getD x.toNat false = true := by
  have := h.cntd x.toNat (by omega)
  rw [show ((x.toNat : Nat) : Int) = x by omega] at this
  exact this.symm
theorem bhas_lt {l : List Bool} {x : Int} (h : bhas l x = true) : 0 ≤ x ∧ x < 7 := by
  unfold bhas at h
  simp at h
  exact h.1
theorem promise (h : PrRf p q) (x : Int) (a : AcS) : (p.promise x a).2 = (q.promise x a).2 ∧ PrRf (p.promise x a).1 (q.promise x a).1 := by
  unfold PrS.promise RfS.promise
  by_cases c : p.st = 0 ∧ bhas p.nodes x = true ∧ p.prom.getD x.toNat false = false ∧ AccP a.a a.b a.c a.d a.s ∧ a.a = p.r ∧ a.b = p.n
  · obtain ⟨h0, h7⟩ := bhas_lt c.2.1
    have cq : q.st = 0 ∧ x ∈ q.nodes ∧ x ∉ q.prom ∧ AccP a.a a.b a.c a.d a.s ∧ a.a = q.r ∧ a.b = q.n := ⟨by rw [← h.st]; exact c.1, (h.mem x).2 c.2.1, (fun hm => by have := (h.inProm h0 h7).1 hm; rw [c.2.2.1] at this; cases this), c.2.2.2.1, by rw [← h.r]; exact c.2.2.2.2.1, by rw [← h.n]; exact c.2.2.2.2.2⟩
    rw [if_pos c, if_pos cq]
    refine ⟨rfl, ⟨h.l1, by show (p.prom.set _ _).length = 7; rw [List.length_set]; exact h.l2, h.l3, h.r, h.n, h.nodes, fun i hi => ?_, ?_, h.cntd, h.cntdN, ?_, h.st, h.st3, h.val⟩⟩
    · show (p.prom.set x.toNat true).getD i false = true ↔ (i : Int) ∈ q.prom ++ [x]
      rw [getD_set _ _ _ (by rw [h.l2]; omega), Bool.or_eq_true, h.prom i hi, List.mem_append, List.mem_singleton, decide_eq_true_eq]
      constructor <;> rintro (h1 | h1)
      · exact .inl h1
      · exact .inr (by omega)
      · exact .inl h1
      · exact .inr (by omega)
    · show (q.prom ++ [x]).length = bcnt (p.prom.set x.toNat true)
      rw [bcnt_set _ _ c.2.2.1 (by rw [h.l2]; omega), List.length_append, h.promN]
      rfl
    · show (if LessP p.best.c p.best.d a.c a.d then a else p.best) = if LessP q.best.c q.best.d a.c a.d then a else q.best
      rw [h.best]
  · have cq : ¬ (q.st = 0 ∧ x ∈ q.nodes ∧ x ∉ q.prom ∧ AccP a.a a.b a.c a.d a.s ∧ a.a = q.r ∧ a.b = q.n) := fun hq => c (by
      have hb := (h.mem x).1 hq.2.1
      obtain ⟨h0, h7⟩ := bhas_lt hb
      refine ⟨by rw [h.st]; exact hq.1, hb, ?_, hq.2.2.2.1, by rw [h.r]; exact hq.2.2.2.2.1, by rw [h.n]; exact hq.2.2.2.2.2⟩
      cases e : p.prom.getD x.toNat false with
      | false => rfl
      | true => exact absurd ((h.inProm h0 h7).2 e) hq.2.2.1)
    rw [if_neg c, if_neg cq]
    exact ⟨rfl, h⟩
theorem tell (h : PrRf p q) (own : ByteArray) : (p.tell own).2 = (q.tell own).2 ∧ PrRf (p.tell own).1 (q.tell own).1 := by
  unfold PrS.tell RfS.tell
  have hv : p.tellV own = q.tellV own := by unfold PrS.tellV RfS.tellV; rw [h.best]
  rw [hv, h.st, h.val, h.promN, h.len]
  by_cases c0 : q.st ≠ 0
  · rw [if_pos c0, if_pos c0]; exact ⟨rfl, h⟩
  · rw [if_neg c0, if_neg c0]
    by_cases c1 : 2 * bcnt p.prom ≤ bcnt p.nodes
    · rw [if_pos c1, if_pos c1]; exact ⟨rfl, h⟩
    · rw [if_neg c1, if_neg c1]
      by_cases c2 : 100000 < (q.tellV own).size
      · rw [if_pos c2, if_pos c2]; exact ⟨rfl, h⟩
      · rw [if_neg c2, if_neg c2]
        exact ⟨rfl, ⟨h.l1, h.l2, h.l3, h.r, h.n, h.nodes, h.prom, h.promN, h.cntd, h.cntdN, h.best, rfl, .inr (.inl rfl), rfl⟩⟩
theorem taken (h : PrRf p q) (x : Int) : (p.taken x).2 = (q.taken x).2 ∧ PrRf (p.taken x).1 (q.taken x).1 := by
  unfold PrS.taken RfS.taken
  by_cases c : (p.st = 1 ∨ p.st = 2) ∧ bhas p.nodes x = true ∧ p.cntd.getD x.toNat false = false
  · obtain ⟨h0, h7⟩ := bhas_lt c.2.1
    have cq : ¬ (q.st = 0 ∨ x ∉ q.nodes ∨ x ∈ q.cntd) := by
      rintro (hq | hq | hq)
      · rw [← h.st] at hq; omega
      · exact hq ((h.mem x).2 c.2.1)
      · have := (h.inCntd h0 h7).1 hq; rw [c.2.2] at this; cases this
    rw [if_pos c, if_neg cq]
    have hc : q.nodes.length < 2 * (q.cntd.length + 1) ↔ bcnt p.nodes < 2 * (bcnt p.cntd + 1) := by rw [h.len, h.cntdN]
    refine ⟨rfl, ⟨h.l1, h.l2, by show (p.cntd.set _ _).length = 7; rw [List.length_set]; exact h.l3, h.r, h.n, h.nodes, h.prom, h.promN, fun i hi => ?_, ?_, h.best, ?_, ?_, h.val⟩⟩
    · show (p.cntd.set x.toNat true).getD i false = true ↔ (i : Int) ∈ q.cntd ++ [x]
      rw [getD_set _ _ _ (by rw [h.l3]; omega), Bool.or_eq_true, h.cntd i hi, List.mem_append, List.mem_singleton, decide_eq_true_eq]
      constructor <;> rintro (h1 | h1)
      · exact .inl h1
      · exact .inr (by omega)
      · exact .inl h1
      · exact .inr (by omega)
    · show (q.cntd ++ [x]).length = bcnt (p.cntd.set x.toNat true)
      rw [bcnt_set _ _ c.2.2 (by rw [h.l3]; omega), List.length_append, h.cntdN]
      rfl
    · show (if p.st = 1 ∧ bcnt p.nodes < 2 * (bcnt p.cntd + 1) then (2 : Int) else p.st) = if q.nodes.length < 2 * (q.cntd.length + 1) then 2 else q.st
      rw [← h.st]
      by_cases e : bcnt p.nodes < 2 * (bcnt p.cntd + 1)
      · rw [if_pos (hc.2 e)]
        by_cases e1 : p.st = 1
        · rw [if_pos ⟨e1, e⟩]
        · rw [if_neg (fun hh => e1 hh.1)]; omega
      · rw [if_neg (fun hh => e hh.2), if_neg (fun hh => e (hc.1 hh))]
    · show (if p.st = 1 ∧ bcnt p.nodes < 2 * (bcnt p.cntd + 1) then (2 : Int) else p.st) = 0 ∨ (if p.st = 1 ∧ bcnt p.nodes < 2 * (bcnt p.cntd + 1) then (2 : Int) else p.st) = 1 ∨ (if p.st = 1 ∧ bcnt p.nodes < 2 * (bcnt p.cntd + 1) then (2 : Int) else p.st) = 2
      split
      · exact .inr (.inr rfl)
      · exact h.st3
  · have cq : q.st = 0 ∨ x ∉ q.nodes ∨ x ∈ q.cntd := by
      by_cases e0 : q.st = 0
      · exact .inl e0
      · by_cases e1 : x ∈ q.nodes
        · refine .inr (.inr ?_)
          have hb := (h.mem x).1 e1
          obtain ⟨h0, h7⟩ := bhas_lt hb
          have := h.st
          have h3 := h.st3
          cases e : p.cntd.getD x.toNat false with
          | false => exact absurd ⟨by omega, hb, e⟩ c
          | true => exact (h.inCntd h0 h7).2 e
        · exact .inr (.inl e1)
    rw [if_neg c, if_pos cq]
    exact ⟨rfl, h⟩
theorem missing (h : PrRf p q) : p.missing = q.missing := by
  unfold PrS.missing RfS.missing
  rw [h.nodes, List.filter_map, List.filter_filter]
  refine congrArg (List.map Int.ofNat) (List.filter_congr fun i hi => ?_)
  have h7 := List.mem_range.1 hi
  show (p.nodes.getD i false && !((if p.st = 0 then p.prom else p.cntd).getD i false)) = (q.misses (Int.ofNat i) && p.nodes.getD i false)
  rw [Bool.and_comm]
  congr 1
  unfold RfS.misses
  congr 1
  rw [h.st]
  by_cases e : q.st = 0
  · rw [if_pos e, if_pos e, Bool.eq_iff_iff, h.prom i h7, decide_eq_true_eq]; rfl
  · rw [if_neg e, if_neg e, Bool.eq_iff_iff, h.cntd i h7, decide_eq_true_eq]; rfl
end PrRf
/-- What flags and a list tell together. -/
def uni (b : List Bool) (l : List Int) : List Bool := (List.range 7).map fun i => b.getD i false || decide ((i : Int) ∈ l)
theorem uni_nil {b : List Bool} (h : b.length = 7) : uni b [] = b := by
  obtain ⟨_, _, _, _, _, _, _, rfl⟩ := list7 h
  simp [uni, List.range_succ]
theorem uni_set {b : List Bool} (h : b.length = 7) (x : Int) (l : List Int) (h0 : 0 ≤ x) (h7 : x < 7) : uni (b.set x.toNat true) l = uni b (x :: l) := by
  unfold uni
  refine List.map_congr_left fun i hi => ?_
  rw [getD_set _ _ _ (by rw [h]; omega), Bool.or_assoc]
  congr 1
  rw [Bool.eq_iff_iff, Bool.or_eq_true, decide_eq_true_eq, decide_eq_true_eq, decide_eq_true_eq, List.mem_cons]
  constructor <;> rintro (h1 | h1)
  · exact .inl (by omega)
  · exact .inr h1
  · exact .inl (by omega)
  · exact .inr h1
theorem uni_skip {b : List Bool} (x : Int) (l : List Int) (hx : ¬ (0 ≤ x ∧ x < 7 ∧ b.getD x.toNat false = false)) : uni b (x :: l) = uni b l := by
  unfold uni
  refine List.map_congr_left fun i hi => ?_
  have h7 := List.mem_range.1 hi
  rw [Bool.eq_iff_iff, Bool.or_eq_true, Bool.or_eq_true, decide_eq_true_eq, decide_eq_true_eq, List.mem_cons]
  constructor
  · rintro (h1 | h1 | h1)
    · exact .inl h1
    · refine .inl ?_
      cases e : b.getD i false with
      | true => rfl
      | false => exact absurd ⟨by omega, by omega, by rw [← h1, show ((i : Int)).toNat = i from rfl]; exact e⟩ hx
    · exact .inr h1
  · rintro (h1 | h1)
    · exact .inl h1
    · exact .inr (.inr h1)
theorem add_uni : ∀ (l : List Int) (b : List Bool), b.length = 7 → (addN l b = some (uni b l) ∧ bcnt (uni b l) = bcnt b + l.length) ∨ (addN l b = none ∧ bcnt (uni b l) < bcnt b + l.length) := by
  intro l
  induction l with
  | nil => intro b hb; exact .inl ⟨by rw [uni_nil hb]; rfl, by rw [uni_nil hb]; rfl⟩
  | cons x l ih =>
    intro b hb
    by_cases hx : 0 ≤ x ∧ x < 7 ∧ b.getD x.toNat false = false
    · have e := ih (b.set x.toNat true) (by rw [List.length_set]; exact hb)
      rw [uni_set hb x l hx.1 hx.2.1, bcnt_set b x.toNat hx.2.2 (by rw [hb]; omega)] at e
      simp only [addN]
      rw [if_pos hx, List.length_cons]
      rcases e with ⟨e1, e2⟩ | ⟨e1, e2⟩
      · exact .inl ⟨e1, by omega⟩
      · exact .inr ⟨e1, by omega⟩
    · refine .inr ⟨?_, ?_⟩
      · simp only [addN]
        rw [if_neg hx]
      · rw [uni_skip x l hx, List.length_cons]
        rcases ih b hb with ⟨_, e2⟩ | ⟨_, e2⟩ <;> omega
theorem filtL_is (k : Nat) (l : List Int) : filtL k l = ((List.range k).filter fun i : Nat => decide ((i : Int) ∈ l)).map Int.ofNat := by
  induction k with
  | zero => rfl
  | succ k ih =>
    unfold filtL
    rw [List.range_succ, List.filter_append, List.map_append, ih]
    by_cases h : (k : Int) ∈ l
    · rw [if_pos h]; simp [h]
    · rw [if_neg h]; simp [h]
theorem uni_getD (l : List Int) (i : Nat) (h : i < 7) : (uni noneB l).getD i false = decide ((i : Int) ∈ l) := by
  rcases lt7 h with rfl | rfl | rfl | rfl | rfl | rfl | rfl <;> simp [uni, noneB, List.range_succ]
theorem uni_none (l : List Int) : ((List.range 7).filter fun i : Nat => decide ((i : Int) ∈ l)) = (List.range 7).filter fun i => (uni noneB l).getD i false :=
  List.filter_congr fun i hi => (uni_getD l i (List.mem_range.1 hi)).symm
theorem uni_len (b : List Bool) (l : List Int) : (uni b l).length = 7 := by simp [uni]
theorem new_rel (r n : Int) (l : List Int) : (newP r n l = none ∧ newR r n l = none) ∨ ∃ p q, newP r n l = some p ∧ newR r n l = some q ∧ PrRf p q ∧ l ≠ [] := by
  have hlen : (filtL 7 l).length = bcnt (uni noneB l) := by rw [filtL_is, List.length_map, uni_none, ← bcnt_range (uni_len _ _)]
  rw [newP_end]
  unfold newR
  rw [hlen]
  rcases add_uni l noneB rfl with ⟨e1, e2⟩ | ⟨e1, e2⟩
  · rw [e1]
    rw [show bcnt noneB = 0 from rfl, Nat.zero_add] at e2
    show ((if l = [] ∨ ¬ RightP r n then (none : Option PrS) else some (prNew r n (uni noneB l))) = none ∧ _) ∨ ∃ p q, (if l = [] ∨ ¬ RightP r n then (none : Option PrS) else some (prNew r n (uni noneB l))) = some p ∧ _
    by_cases c : l = [] ∨ ¬ RightP r n
    · rw [if_pos c]
      refine .inl ⟨rfl, if_neg ?_⟩
      rintro ⟨⟨_, h2⟩, h3⟩
      rcases c with c | c
      · rw [c] at h2; exact absurd h2 (by decide)
      · exact c h3
    · rw [if_neg c]
      have hl : l ≠ [] := fun e => c (.inl e)
      have hl1 : 1 ≤ l.length := by cases l with
        | nil => exact absurd rfl hl
        | cons a l => simp
      refine .inr ⟨_, _, rfl, if_pos ⟨⟨e2, hl1⟩, Classical.not_not.1 fun e => c (.inr e)⟩, ?_, hl⟩
      refine ⟨uni_len _ _, rfl, rfl, rfl, rfl, ?_, fun i hi => ?_, rfl, fun i hi => ?_, rfl, rfl, rfl, .inl rfl, rfl⟩
      · show filtL 7 l = _
        rw [filtL_is, uni_none]
        rfl
      · show noneB.getD i false = true ↔ (i : Int) ∈ []
        rcases lt7 hi with rfl | rfl | rfl | rfl | rfl | rfl | rfl <;> simp [noneB]
      · show noneB.getD i false = true ↔ (i : Int) ∈ []
        rcases lt7 hi with rfl | rfl | rfl | rfl | rfl | rfl | rfl <;> simp [noneB]
  · rw [e1]
    rw [show bcnt noneB = 0 from rfl, Nat.zero_add] at e2
    exact .inl ⟨rfl, if_neg (fun h => by omega)⟩

theorem num_l0 (l : List Int) (hl : (l.length : Int) ≤ 9223372036854775807) : ∀ (d i k : Nat), i + d = l.length → d < k → carillonlaw11_numbers.l0 k l l (i : Int) = some true := by
  intro d
  induction d with
  | zero =>
    intro i k hi hk
    obtain ⟨k, rfl⟩ : ∃ j, k = j + 1 := ⟨k - 1, by omega⟩
    unfold carillonlaw11_numbers.l0
    rw [if_neg (by omega)]
  | succ d ih =>
    intro i k hi hk
    obtain ⟨k, rfl⟩ : ∃ j, k = j + 1 := ⟨k - 1, by omega⟩
    unfold carillonlaw11_numbers.l0
    rw [if_pos (by omega), if_pos (by omega), if_pos (by omega), if_pos rfl, show wrap64 ((i : Int) + 1) = ((i + 1 : Nat) : Int) by unfold wrap64; omega]
    exact ih (i + 1) k (by omega) (by omega)
theorem numbers_calls (A0 : Option Addr) (c0 : Nat) (A1 : Option Addr) (c1 : Nat) (l : List Int) (W : World) (h0 : Kd.C (Kd.int .i64) W A0 l.length l) (hc0 : l.length ≤ c0) (h1 : Kd.C (Kd.int .i64) W A1 l.length l) (hc1 : l.length ≤ c1) :
    Calls Tryd.prog 17 #[.slice A0 l.length c0, .slice A1 l.length c1] W fun e w' => e = .returned (.bool true) ∧ ∃ m, w' = W.drewN m :=
  (carillonlaw11_numbers.calls (l.length + 1) A0 c0 l A1 c1 l true W h0 hc0 h1 hc1 (by
    unfold carillonlaw11_numbers.f
    rw [if_pos rfl]
    exact num_l0 l (by have := h0.2.1; omega) l.length 0 _ (by omega) (by omega))).mono (fun e w' ⟨h1, h2⟩ => ⟨h1, h2.out⟩)
/-- The two proposers, in memory. -/
structure PlIs (w W : World) (gp b g : Nat) (p : PrS) (q : RfS) (Vn Vp Vc : Value) : Prop where
  P : PrIs W gp p
  Q : RfIs W b g q Vn Vp Vc
  T : TabOk W
  B : Below w.heap.size w W
  big : w.heap.size ≤ gp ∧ gp < b ∧ 0 < w.heap.size
namespace PlIs
variable {w W W' : World} {gp b g : Nat} {p p' : PrS} {q q' : RfS} {Vn Vp Vc Vn' Vp' Vc' : Value}
theorem below (h : PlIs w W gp b g p q Vn Vp Vc) (hb : Below W.heap.size W W') : PlIs w W' gp b g p q Vn Vp Vc :=
  ⟨h.P.below hb, h.Q.below hb, h.T.below hb, h.B.trans (hb.mono h.B.size), h.big⟩
theorem drewN (h : PlIs w W gp b g p q Vn Vp Vc) (n : Nat) : PlIs w (W.drewN n) gp b g p q Vn Vp Vc := h.below (pw_below_drewN (Below.refl _ _) n)
theorem drew (h : PlIs w W gp b g p q Vn Vp Vc) : PlIs w W.drew gp b g p q Vn Vp Vc := h.below (below_drew (Below.refl _ _))
theorem alloc (h : PlIs w W gp b g p q Vn Vp Vc) (o : Obj) : PlIs w (W.alloc o) gp b g p q Vn Vp Vc := h.below (below_alloc (Below.refl _ _) o)
theorem away (h : PlIs w W gp b g p q Vn Vp Vc) {k : Nat} (ho : Only W W' (· = k)) (h1 : k < gp) (h2 : w.heap.size ≤ k) : PlIs w W' gp b g p q Vn Vp Vc := by
  have hb := h.big
  have hg := h.Q.ge
  exact ⟨h.P.only ho (by omega), h.Q.away ho (by omega) (fun j hj e => by have := Kd.R_base h.Q.N j hj; omega) (fun j hj e => by have := Kd.R_base h.Q.P j hj; omega) (fun j hj e => by have := Kd.R_base h.Q.C j hj; omega), ho.tab h.T (by omega), h.B.trans (ho.below h.B.size (fun i hi => by omega)), h.big⟩
theorem stepP (h : PlIs w W gp b g p q Vn Vp Vc) (hP : PrIs W' gp p') (ho : Only W W' (· = gp)) : PlIs w W' gp b g p' q Vn Vp Vc := by
  have hb := h.big
  have hg := h.Q.ge
  exact ⟨hP, h.Q.away ho (by omega) (fun j hj e => by have := Kd.R_base h.Q.N j hj; omega) (fun j hj e => by have := Kd.R_base h.Q.P j hj; omega) (fun j hj e => by have := Kd.R_base h.Q.C j hj; omega), ho.tab h.T (by omega), h.B.trans (ho.below h.B.size (fun i hi => by omega)), h.big⟩
theorem stepQ (h : PlIs w W gp b g p q Vn Vp Vc) {S : Nat → Prop} (hQ : RfIs W' b g q' Vn' Vp' Vc') (ho : Only W W' S) (hS : ∀ i, S i → b ≤ i) : PlIs w W' gp b g p q' Vn' Vp' Vc' := by
  have hb := h.big
  exact ⟨h.P.only ho (fun e => by have := hS _ e; omega), hQ, ho.tab h.T (fun e => by have := hS _ e; omega), h.B.trans (ho.below h.B.size (fun i hi => by have := hS _ hi; omega)), h.big⟩
theorem geP (h : PlIs w W gp b g p q Vn Vp Vc) : ∀ i, (i = g ∨ Vp.ownBlock = some i) → b ≤ i := by
  rintro i (rfl | hi)
  · exact h.Q.ge
  · exact Kd.R_base h.Q.P i hi
theorem geC (h : PlIs w W gp b g p q Vn Vp Vc) : ∀ i, (i = g ∨ Vc.ownBlock = some i) → b ≤ i := by
  rintro i (rfl | hi)
  · exact h.Q.ge
  · exact Kd.R_base h.Q.C i hi
theorem boxP (h : PlIs w W gp b g p q Vn Vp Vc) {d t : Nat} {C : Array Value} (hX : W.heap[d]? = some (.cells C t (0, 0))) (ho : Only W W' (· = gp)) (ht : t ≠ 68) : W'.heap[d]? = some (.cells C t (0, 0)) :=
  ho.blk hX (fun e => blk_ne hX h.P.blk ht e)
theorem boxg (h : PlIs w W gp b g p q Vn Vp Vc) {d t : Nat} {C : Array Value} (hX : W.heap[d]? = some (.cells C t (0, 0))) (ho : Only W W' (· = g)) (ht : t ≠ 48) : W'.heap[d]? = some (.cells C t (0, 0)) :=
  ho.blk hX (fun e => blk_ne hX h.Q.X ht e)
theorem boxVp (h : PlIs w W gp b g p q Vn Vp Vc) {d t : Nat} {C : Array Value} (hX : W.heap[d]? = some (.cells C t (0, 0))) (ho : Only W W' (fun k => k = g ∨ Vp.ownBlock = some k)) (ht : t ≠ 48) (ht2 : t ≠ 3) : W'.heap[d]? = some (.cells C t (0, 0)) :=
  ho.blk hX (fun e => e.elim (fun e => blk_ne hX h.Q.X ht e) (h.Q.neN hX ht2).2.1)
theorem boxVc (h : PlIs w W gp b g p q Vn Vp Vc) {d t : Nat} {C : Array Value} (hX : W.heap[d]? = some (.cells C t (0, 0))) (ho : Only W W' (fun k => k = g ∨ Vc.ownBlock = some k)) (ht : t ≠ 48) (ht2 : t ≠ 3) : W'.heap[d]? = some (.cells C t (0, 0)) :=
  ho.blk hX (fun e => e.elim (fun e => blk_ne hX h.Q.X ht e) (h.Q.neN hX ht2).2.2)
end PlIs

end Go.Proofs.YtnmcknfkmelnbaaDoor.P
