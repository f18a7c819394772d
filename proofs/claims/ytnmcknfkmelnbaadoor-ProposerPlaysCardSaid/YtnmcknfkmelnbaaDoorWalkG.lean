import Derived.Test.YtnmcknfkmelnbaaDoorWalkE
import Derived.Test.YtnmcknfkmelnbaaDoorPlainE
import Derived.Test.YtnmcknfkmelnbaaDoorWalkB
import Derived.Outline
import Derived.Laws.BitsAllLaws
import Derived.WalkSpells
import Derived.StillTailTactics
namespace Go.Proofs.YtnmcknfkmelnbaaDoor.P
open Go.RowKit Go.Proofs.YtnmcknfkmelnbaaDoorW.PrintWords Go.Proofs.YtnmcknfkmelnbaaDoorW.PrintLast Go.Proofs.YtnmcknfkmelnbaaDoorW.PrintMore
attribute [local go_sem] max2_int min2_int max_two min_two max_three min_three max_four min_four
set_option linter.unusedVariables false
set_option linter.unusedSimpArgs false
theorem promise_he (g : Nat) (p : PrS) (node : Int) (a : AcS) (w : World) (h : PrIs w g p) (HT_ : TabOk w) :
    Calls Tryd.prog 11 #[.pointer (some ⟨g, 0, none⟩), .int .i64 node, .agg #[.int .i64 a.a, .int .i64 a.b, .int .i64 a.c, .int .i64 a.d, .string a.s]] w fun e w' => e = .returned (.bool (p.promise node a).2) ∧ PrIs w' g (p.promise node a).1 ∧ Only w w' (· = g) := by
  obtain ⟨re, hE⟩ := enc_he a.a a.b a.c a.d a.s
  exact promise_calls g p node a w h HT_ 1012 re hE
theorem C_lit_int (W : World) (xs : List Int) (e : Nat) (hm : xs.length ≤ 9223372036854775807) : Kd.C (Kd.int .i64) (W.alloc (.cells (xs.map (Value.int .i64)).toArray e)) (some ⟨W.heap.size, 0, none⟩) xs.length xs := by
  refine Kd.C_of_reads (d := (0 : Int)) ⟨rfl, hm, fun _ => ⟨_, rfl, fun j hj => ?_⟩⟩
  rw [add_plain, blk_cell (heap_alloc_new W _) j]
  simp [List.getElem?_eq_getElem hj, List.getD_eq_getElem?_getD]
def exN : List Bool := [true, true, true, false, false, false, false]
def exP0 : PrS := prNew 1 0 exN
def exA : AcS := ⟨1, 0, 0, 0, ⟨#[]⟩⟩
def exX : ByteArray := ⟨#[120]⟩
def exP1 : PrS := { exP0 with prom := [true, false, false, false, false, false, false] }
def exP2 : PrS := { exP0 with prom := [true, true, false, false, false, false, false] }
def exP3 : PrS := { exP2 with st := 1, val := exX }
def exP4 : PrS := { exP3 with cntd := [true, false, false, false, false, false, false] }
def exP5 : PrS := { exP3 with cntd := [true, false, true, false, false, false, false], st := 2 }
theorem ex_acc : AccP 1 0 0 0 (⟨#[]⟩ : ByteArray) := by
  refine ⟨.inl (by unfold RightP; omega), by unfold LessP; omega, by decide, fun _ => by rw [toList_eq], .inl ⟨rfl, rfl⟩⟩
theorem ex0 : newP 1 0 [0, 1, 2] = some exP0 := by
  unfold newP
  rw [show addN [0, 1, 2] noneB = some exN from rfl]
  exact if_neg (fun h => h.elim (fun h => by cases h) (fun h => h (by unfold RightP; omega)))
theorem ex0' : newP 1 0 [0, 0] = none := rfl
theorem ex1 : exP0.tell exX = (exP0, ⟨#[]⟩, 12) := rfl
theorem ex2 : exP0.promise 0 exA = (exP1, true) := by
  unfold PrS.promise
  exact if_pos ⟨rfl, rfl, rfl, ex_acc, rfl, rfl⟩
theorem ex3 : exP1.promise 1 exA = (exP2, true) := by
  unfold PrS.promise
  exact if_pos ⟨rfl, rfl, rfl, ex_acc, rfl, rfl⟩
theorem ex4 : exP2.tell ⟨#[120]⟩ = (exP3, ⟨#[120]⟩, 0) := rfl
theorem ex5 : exP3.taken 0 = (exP4, true) := rfl
theorem ex6 : exP4.taken 0 = (exP4, false) := rfl
theorem ex7 : exP4.taken 2 = (exP5, true) := rfl
theorem ex8 : exP5.missing = [1] := rfl
/-- What stands while the examples run: the proposer, the ballot's box, the tables. -/
structure ExS (w W : World) (g b0 : Nat) (p : PrS) : Prop where
  P : PrIs W g p
  X : W.heap[b0]? = some (.cells #[.int .i64 1, .int .i64 0] 23 (0, 0))
  T : TabOk W
  B : Below w.heap.size w W
  gw : w.heap.size ≤ g
  ne : g ≠ b0
  pos : 0 < w.heap.size
theorem ExS.step {w W W' : World} {g b0 : Nat} {p p' : PrS} (h : ExS w W g b0 p) (hP : PrIs W' g p') (ho : Only W W' (· = g)) : ExS w W' g b0 p' :=
  ⟨hP, ho.blk h.X (fun e => h.ne e.symm), ho.tab h.T (by have := h.gw; have := h.pos; omega), h.B.trans (ho.below h.B.size (fun i hi => by have := h.gw; omega)), h.gw, h.ne, h.pos⟩
theorem ExS.below {w W W' : World} {g b0 : Nat} {p : PrS} (h : ExS w W g b0 p) (hb : Below W.heap.size W W') : ExS w W' g b0 p :=
  ⟨h.P.below hb, blk_below h.X hb, h.T.below hb, h.B.trans (hb.mono h.B.size), h.gw, h.ne, h.pos⟩
set_option maxHeartbeats 4000000 in
set_option maxRecDepth 100000 in
theorem examples_calls (w : World) (HT_ : TabOk w) :
    Calls Tryd.prog 7 #[] w fun e w' => e = .returned (.bool true) ∧ Below w.heap.size w w' := by
  have HT0 := Aside0.mk HT_
  have h0lt : 0 < w.heap.size := World.block_lt_of_cell? w _ (HT_.siz0 0 (by decide))
  clear HT_
  go_enter Tryd.func7, Tryd.ntmps7
  have HC3 : Aside0 (∀ (W : World) (b : Nat), b = W.heap.size → Kd.C (Kd.int .i64) (W.alloc (.cells #[.int .i64 0, .int .i64 1, .int .i64 2] 3)) (some ⟨b, 0, none⟩) 3 [0, 1, 2]) := ⟨fun W b hb => by subst hb; exact C_lit_int W [0, 1, 2] 3 (by decide)⟩
  have HC2 : Aside0 (∀ (W : World) (b : Nat), b = W.heap.size → Kd.C (Kd.int .i64) (W.alloc (.cells #[.int .i64 0, .int .i64 0] 3)) (some ⟨b, 0, none⟩) 2 [0, 0]) := ⟨fun W b hb => by subst hb; exact C_lit_int W [0, 0] 3 (by decide)⟩
  have HN1 : Aside0 (∀ W A, Kd.C (Kd.int .i64) W A 3 [0, 1, 2] → Calls Tryd.prog 8 #[.agg #[.int .i64 1, .int .i64 0], .slice A 3 3] W (NewPost W (some exP0))) := ⟨fun W A h => by have := new_calls 1 0 A 3 [0, 1, 2] W h (by decide); rw [ex0] at this; exact this⟩
  have HN2 : Aside0 (∀ W A, Kd.C (Kd.int .i64) W A 2 [0, 0] → Calls Tryd.prog 8 #[.agg #[.int .i64 1, .int .i64 0], .slice A 2 2] W (NewPost W none)) := ⟨fun W A h => by have := new_calls 1 0 A 2 [0, 0] W h (by decide); rw [ex0'] at this; exact this⟩
  go_wp2_with (go_at_call 8; refine (HN1.out _ _ (HC3.out _ _ (by simp))).mono ?_)
  intro e W1 hN
  obtain ⟨hb, g, hg, rfl, hp⟩ := hN
  have HS1 : Aside0 (ExS w W1 g w.heap.size exP0) := ⟨⟨hp, blk_below (blk_alloc (heap_alloc_new w _) _) hb, (HT0.out.alloc _).alloc _ |>.below hb, Below.trans (below_alloc (below_alloc (Below.refl _ _) _) _) (hb.mono (by simp; omega)), by simp at hg; omega, by simp at hg; omega, h0lt⟩⟩
  clear hb hg hp
  obtain ⟨hx0, hx1, _, _⟩ := bx2 HS1.out.X
  go_wp2_with (go_at_call 8; refine (HN2.out _ _ (HC2.out _ _ (by simp))).mono ?_)
  intro e W2 hN
  obtain ⟨hb, rfl⟩ := hN
  have HS2 : Aside0 (ExS w W2 g w.heap.size exP0) := ⟨(HS1.out.below (below_alloc (Below.refl _ _) _)).below hb⟩
  clear hb hx0 hx1
  go_wp2_with (go_at_call 13; refine (tell_calls g exP0 exX _ HS2.out.P).mono ?_)
  rw [ex1]
  rintro e W3 ⟨rfl, hP, hO⟩
  have HS3 : Aside0 (ExS w W3 g w.heap.size exP0) := ⟨HS2.out.step hP hO⟩
  clear hP hO
  obtain ⟨hx0, hx1, _, _⟩ := bx2 HS3.out.X
  go_wp2_with (go_at_call 11; refine (promise_he g exP0 0 exA _ HS3.out.P HS3.out.T).mono ?_)
  rw [ex2]
  rintro e W4 ⟨rfl, hP, hO⟩
  have HS4 : Aside0 (ExS w W4 g w.heap.size exP1) := ⟨HS3.out.step hP hO⟩
  clear hP hO hx0 hx1
  obtain ⟨hx0, hx1, _, _⟩ := bx2 HS4.out.X
  go_wp2_with (go_at_call 11; refine (promise_he g exP1 1 exA _ HS4.out.P HS4.out.T).mono ?_)
  rw [ex3]
  rintro e W5 ⟨rfl, hP, hO⟩
  have HS5 : Aside0 (ExS w W5 g w.heap.size exP2) := ⟨HS4.out.step hP hO⟩
  clear hP hO hx0 hx1
  go_wp2_with (go_at_call 13; refine (tell_calls g exP2 ⟨#[120]⟩ _ HS5.out.P).mono ?_)
  rw [ex4]
  rintro e W6 ⟨rfl, hP, hO⟩
  have HS6 : Aside0 (ExS w W6 g w.heap.size exP3) := ⟨HS5.out.step hP hO⟩
  clear hP hO
  go_wp2_with (go_at_call 15; refine (taken_calls g exP3 0 _ HS6.out.P).mono ?_)
  rw [ex5]
  rintro e W7 ⟨rfl, hP, hO⟩
  have HS7 : Aside0 (ExS w W7 g w.heap.size exP4) := ⟨HS6.out.step hP hO⟩
  clear hP hO
  go_wp2_with (go_at_call 15; refine (taken_calls g exP4 0 _ HS7.out.P).mono ?_)
  rw [ex6]
  rintro e W8 ⟨rfl, hP, hO⟩
  have HS8 : Aside0 (ExS w W8 g w.heap.size exP4) := ⟨HS7.out.step hP hO⟩
  clear hP hO
  go_wp2_with (go_at_call 20; refine (state_calls g exP4 _ HS8.out.P).mono ?_)
  rintro e W9 ⟨rfl, rfl⟩
  rw [show exP4.st = 1 from rfl]
  go_wp2_with (go_at_call 15; refine (taken_calls g exP4 2 _ HS8.out.P).mono ?_)
  rw [ex7]
  rintro e W10 ⟨rfl, hP, hO⟩
  have HS9 : Aside0 (ExS w W10 g w.heap.size exP5) := ⟨HS8.out.step hP hO⟩
  clear hP hO
  go_wp2_with (go_at_call 18; refine (missing_calls g exP5 _ HS9.out.P).mono ?_)
  rw [ex8]
  rintro e W11 ⟨⟨A, rfl, hC⟩, hb⟩
  have HS10 : Aside0 (ExS w W11 g w.heap.size exP5) := ⟨HS9.out.below hb⟩
  obtain ⟨ad, e0, hl0⟩ := Kd.at_int hC 0 (by decide) (by decide)
  cases e0
  clear hC hb
  have hl1 : W11.cell? (ad.add 0) = some (.int .i64 1) := hl0
  have hl2 := hl1
  rw [Addr.add_zero'] at hl2
  have HV : Calls Tryd.prog 21 #[.pointer (some ⟨g, 0, none⟩)] W11 fun e w' => e = .returned (.string ⟨#[120]⟩) ∧ w' = W11 := value_calls g exP5 _ HS10.out.P
  have HT : Calls Tryd.prog 20 #[.pointer (some ⟨g, 0, none⟩)] W11 fun e w' => e = .returned (.int .i64 2) ∧ w' = W11 := state_calls g exP5 _ HS10.out.P
  have HV0 := Aside0.mk HV
  have HT0 := Aside0.mk HT
  clear HV HT
  go_wp2_with (first | (go_at_call 20; refine HT0.out.mono ?_; rintro e W12 ⟨rfl, rfl⟩) | (go_at_call 21; refine HV0.out.mono ?_; rintro e W12 ⟨rfl, rfl⟩))
  go_ret
  exact ⟨rfl, HS10.out.B⟩

end Go.Proofs.YtnmcknfkmelnbaaDoor.P
