-- Printed by this session's program wip/xp.py (a turned copy of the kit's printer): functions, their contracts.
import Derived.Test.YtpgiagdpepkooaaDoorPx0
namespace Go.Proofs.YtpgiagdpepkooaaDoor.P
open Go.RowKit Go.Proofs.YtpgiagdpepkooaaDoorW.PrintWords Go.Proofs.YtpgiagdpepkooaaDoorW.PrintLast Go.Proofs.YtpgiagdpepkooaaDoorW.PrintMore
attribute [local go_sem] max2_int min2_int max_two min_two max_three min_three max_four min_four   -- for this text's walks alone
set_option linter.unusedVariables false
set_option linter.unusedSimpArgs false

-- NOT PRINTED: function 61 (command_from)

-- NOT PRINTED: function 42 (command_rules)

-- NOT PRINTED: function 62 (strings_indexFunc)

-- NOT PRINTED: function 45 (strings_IndexFunc)

/-! ### command_Word: function 18 -/
/-- No letter of a word. -/
def notWordR (x : Nat) : Bool := !((decide (97 ≤ x) && decide (x ≤ 122)) || (decide (48 ≤ x) && decide (x ≤ 57)))
def command_Word.f (s : ByteArray) : Option Bool := some (decide (s.size ≠ 0) && decide (s.size ≤ 20) && decide (Lib.idxFunc notWordR true s < 0))
set_option maxHeartbeats 1000000 in
theorem word1_calls (w : World) : PredAtRunes Tryd.prog 46 #[] notWordR w := by
 intro W x hx _
 show Calls Tryd.prog 46 #[.int .i32 (x : Int)] W _
 have HB := Aside0.mk (Below.refl W.heap.size W)
 unfold notWordR
 go_enter Tryd.func46, Tryd.ntmps46
 go_wp2
 all_goals (go_ret; refine ⟨?_, 0, rfl⟩; apply congrArg Ending.returned; apply congrArg Value.bool; rw [Bool.eq_iff_iff]; simp; omega)
set_option maxHeartbeats 1000000 in
theorem command_Word.calls (a0 : ByteArray) (r : Bool) (w : World) (h : command_Word.f a0 = some r) :
  Calls Tryd.prog 18 #[.string a0] w fun e w' => e = .returned (.bool r) ∧ Below w.heap.size w w' := by
 have hC := fun (W : World) => Any.strings_IndexFunc_runes YtpgiagdpepkooaaDoor.l15 46 #[] (enters_of Tryd.func46 (by kernel_rfl) rfl) notWordR a0 W (word1_calls W)
 replace hC : ∀ W : World, Calls Tryd.prog 45 #[.string a0, .func (.func 46) #[] #[]] W fun e w' => e = .returned (.int .i64 (Lib.idxFunc notWordR true a0)) ∧ Below W.heap.size W w' := hC
 have HCC := Aside0.mk hC
 clear hC
 have hE : (a0.toList = []) ↔ a0.size = 0 := by
  rw [Lib.toList_data]
  constructor
  ·intro e; have := congrArg List.length e; simpa using this
  ·intro e; apply List.eq_nil_of_length_eq_zero; simpa using e
 have HE := Aside0.mk hE
 clear hE
 have HR := Aside0.mk (Option.some.inj h)
 clear h
 generalize Lib.idxFunc notWordR true a0 = I at *
 have HB := Aside0.mk (Below.refl w.heap.size w)
 go_enter Tryd.func18, Tryd.ntmps18
 go_wp2_with (first | (go_at_call 45; refine (HCC.out _).mono ?_; rintro e w2 ⟨rfl, hb⟩; replace HB := Aside0.mk (below_step bw hb); (try clear hb)))
 all_goals (go_ret; refine ⟨?_, bw⟩; apply congrArg Ending.returned; apply congrArg Value.bool; rw [← HR.out, Bool.eq_iff_iff]; have h1_ := HE.out; simp at h1_ ⊢; first | omega | (intros; omega) | (simp [*]; done) | (simp [*]; first | omega | (intros; omega)) | (simp_all; try (intros; omega)))

/-! ### command_named: function 43 -/
def command_named.f (a0 : ByteArray) (a1 : Bool) : Option (Bool) := if a1 = true then ((command_Word.f a0).bind fun t101 => (some t101)) else (some (a0.toList == ([] : List UInt8)))
set_option maxHeartbeats 8000000 in
set_option maxRecDepth 100000 in
theorem command_named.calls (a0 : ByteArray) (a1 : Bool) (r : Bool) (w : World) (h : command_named.f a0 a1 = some r) :
  Calls Tryd.prog 43 #[.string a0, .bool a1] w fun e w' => e = .returned (.bool r) ∧ Below w.heap.size w w' := by
 have HB := Aside0.mk (Below.refl w.heap.size w)
 have H := h
 unfold command_named.f at H
 clear h
 by_cases c3 : a1 = true; rotate_left
 ·replace c3 := Bool.eq_false_iff.mpr c3
  subst c3
  have H1 : (some (a0.toList == ([] : List UInt8))) = some r := by rw [if_neg (show ¬ (false = true) by decide)] at H; exact H
  clear H
  have H := H1
  clear H1
  obtain rfl := Option.some.inj H
  go_enter Tryd.func43, Tryd.ntmps43
  go_wp2
  go_ret
  exact ⟨er, bw⟩
 subst c3
 have H1 : ((command_Word.f a0).bind fun t101 => (some t101)) = some r := by rw [if_pos rfl] at H; exact H
 clear H
 have H := H1
 clear H1
 replace H := Option.bind_eq_some_iff.mp H
 obtain ⟨t101, A40, H⟩ := H
 have A4 := Aside0.mk A40
 clear A40
 obtain rfl := Option.some.inj H
 go_enter Tryd.func43, Tryd.ntmps43
 go_wp2_with (first | ((with_reducible refine gate_callee (f := 18) rfl ?_); refine goesL_ (some 7) rfl rfl Tryd.func18 (by kernel_rfl) rfl #[.string a0] rfl am ?_; (with_reducible refine (command_Word.calls a0 t101 _ A4.out).mono ?_); rintro e w5 ⟨rfl, hb⟩; refine ⟨_, rfl, ?_⟩; replace HB := Aside0.mk (below_step bw hb); (try clear hb)))
 go_ret
 exact ⟨er, bw⟩

/-! ### command_Right: function 16 -/
/-- What 'from' hands back stands over two boxes. -/
def FromB (w' : World) (base B1 B2 : Nat) (a b : Int) : Prop := base ≤ B1 ∧ base ≤ B2 ∧ w'.heap[B1]? = some (.cells #[.int .i64 a] 3 (0, 0)) ∧ w'.heap[B2]? = some (.cells #[.int .i64 b] 3 (0, 0))
theorem FromB.below {w w' : World} {base B1 B2 : Nat} {a b : Int} (h : FromB w base B1 B2 a b) (hb : Below w.heap.size w w') : FromB w' base B1 B2 a b := ⟨h.1, h.2.1, blk_below h.2.2.1 hb, blk_below h.2.2.2 hb⟩
theorem FromB.far {w : World} {base B1 B2 : Nat} {a b : Int} (h : FromB w base B1 B2 a b) {p : Addr} (hp : p.block < base) (u : Value) : FromB (w.setCell p u) base B1 B2 a b :=
 ⟨h.1, h.2.1, blk_far h.2.2.1 (by have := h.1; omega) u, blk_far h.2.2.2 (by have := h.2.1; omega) u⟩
theorem FromB.lower {w : World} {base base' B1 B2 : Nat} {a b : Int} (h : FromB w base B1 B2 a b) (hb : base' ≤ base) : FromB w base' B1 B2 a b := ⟨Nat.le_trans hb h.1, Nat.le_trans hb h.2.1, h.2.2⟩
set_option maxHeartbeats 1000000 in
theorem from_calls (a b : Int) (w : World) : Calls Tryd.prog 61 #[.int .i64 a, .int .i64 b] w fun e w' => ∃ B1 B2 : Nat, e = .returned (.func (.func 78) #[] #[.pointer (some ⟨B1, 0, none⟩), .pointer (some ⟨B2, 0, none⟩)]) ∧ FromB w' w.heap.size B1 B2 a b ∧ Below w.heap.size w w' := by
 have HB := Aside0.mk (Below.refl w.heap.size w)
 go_enter Tryd.func61, Tryd.ntmps61
 go_wp2
 go_ret
 refine ⟨w.heap.size, w.heap.size + 1, rfl, ⟨Nat.le_refl _, by omega, ?_, ?_⟩, bw⟩
 ·show ((w.heap.push _).push _)[w.heap.size]? = _
  rw [Array.getElem?_push, if_neg (by simp), Array.getElem?_push, if_pos rfl]
 ·show ((w.heap.push _).push _)[w.heap.size + 1]? = _
  rw [Array.getElem?_push, if_pos (by simp)]
set_option maxHeartbeats 1000000 in
theorem from1_calls (n a b : Int) (B1 B2 base : Nat) (w : World) (h : FromB w base B1 B2 a b) (z : Bool) (hz : (decide (a ≤ n) && decide (n ≤ b)) = z) : Calls Tryd.prog 78 #[.int .i64 n, .pointer (some ⟨B1, 0, none⟩), .pointer (some ⟨B2, 0, none⟩)] w fun e w' => e = .returned (.bool z) ∧ Below w.heap.size w w' := by
 subst hz
 obtain ⟨_, _, h1, h2⟩ := h
 have HB := Aside0.mk (Below.refl w.heap.size w)
 have hb0 := bc1_0 h1
 have hb1 := bc1_0 h2
 go_enter Tryd.func78, Tryd.ntmps78
 go_wp2
 all_goals (repeat (go_quiet (fail); go_wp2))
 all_goals (go_ret; exact ⟨by first | (simp [*]; done) | (simp; omega), bw⟩)
/-- What a kind of command asks for: a topic, a name, a publication's fields, and between what its number lies. -/
def ruleV (k : Int) : Option (Bool × Bool × Bool × Int × Int) :=
 if k = 1 then some (true, false, false, 0, 0) else if k = 2 then some (true, true, true, 0, 0) else if k = 3 then some (true, true, false, -1, 9007199254740991) else if k = 4 then some (false, true, false, 0, 0) else if k = 5 then some (false, true, false, 1, 50) else if k = 6 then some (false, true, false, 0, 9007199254740991) else if k = 7 then some (false, true, false, 0, 9007199254740991) else if k = 8 then some (true, false, false, 0, 9007199254740991) else if k = 9 then some (true, false, false, 0, 9007199254740991) else if k = 10 then some (false, false, false, 0, 6) else if k = 11 then some (false, false, false, 0, 6) else none
def RuleIs (k : Int) (w : World) (e : Ending) (w' : World) : Prop :=
 match ruleV k with
 | some (t, n, p, a, b) => ∃ B1 B2 : Nat, e = .returned (.tuple #[.agg #[.bool t, .bool n, .bool p, .func (.func 78) #[] #[.pointer (some ⟨B1, 0, none⟩), .pointer (some ⟨B2, 0, none⟩)]], .bool true]) ∧ FromB w' w.heap.size B1 B2 a b
 | none => e = .returned (.tuple #[.agg #[.bool false, .bool false, .bool false, .nilFunc], .bool false])
set_option maxHeartbeats 4000000 in
theorem rules_1 (w : World) : Calls Tryd.prog 42 #[.int .i64 1] w fun e w' => RuleIs 1 w e w' ∧ Below w.heap.size w w' := by
 have HB := Aside0.mk (Below.refl w.heap.size w)
 go_enter Tryd.func42, Tryd.ntmps42
 go_upto_region 2 with (first | (go_at_call 61; refine (from_calls _ _ _).mono ?_; rintro e w2 ⟨B1, B2, rfl, hv, hb⟩))
 have HV := Aside0.mk hv
 clear hv
 have hbk := blk_below (blk_new w (.cells #[.bool false, .bool false, .bool false, .nilFunc] 71)) hb
 have hcz0 := bc4_0 hbk
 have hcz1 := bc4_1 hbk
 have hcz2 := bc4_2 hbk
 have hcz3 := bc4_3 hbk
 have hfz0 := blk_frozen hbk 0
 have hfz1 := blk_frozen hbk 1
 have hfz2 := blk_frozen hbk 2
 have hfz3 := blk_frozen hbk 3
 have HBK := Aside0.mk hbk
 clear hbk
 have HB2 := Aside0.mk (below_step (below_alloc HB.out _) hb)
 clear hb
 go_wp2
 refine bodyPost_ret (v := .tuple #[.agg #[.bool true, .bool false, .bool false, .func (.func 78) #[] #[.pointer (some ⟨B1, 0, none⟩), .pointer (some ⟨B2, 0, none⟩)]], .bool true]) (by simp [results, Tryd.results42, go_sem, hcz0, hcz1, hcz2, hcz3, hfz0, hfz1, hfz2, hfz3]) rfl ⟨?_, ?_⟩
 ·exact ⟨B1, B2, rfl, ((((HV.out.far (p := ⟨w.heap.size, 0, none⟩) (by first | (simp; done) | (simp; omega)) _).far (p := ⟨w.heap.size, 1, none⟩) (by first | (simp; done) | (simp; omega)) _).far (p := ⟨w.heap.size, 2, none⟩) (by first | (simp; done) | (simp; omega)) _).far (p := ⟨w.heap.size, 3, none⟩) (by first | (simp; done) | (simp; omega)) _).lower (by simp)⟩
 ·exact (((HB2.out.setCell (p := ⟨w.heap.size, 0, none⟩) (Nat.le_refl _) _).setCell (p := ⟨w.heap.size, 1, none⟩) (Nat.le_refl _) _).setCell (p := ⟨w.heap.size, 2, none⟩) (Nat.le_refl _) _).setCell (p := ⟨w.heap.size, 3, none⟩) (Nat.le_refl _) _
set_option maxHeartbeats 4000000 in
theorem rules_2 (w : World) : Calls Tryd.prog 42 #[.int .i64 2] w fun e w' => RuleIs 2 w e w' ∧ Below w.heap.size w w' := by
 have HB := Aside0.mk (Below.refl w.heap.size w)
 go_enter Tryd.func42, Tryd.ntmps42
 go_upto_region 2 with (first | (go_at_call 61; refine (from_calls _ _ _).mono ?_; rintro e w2 ⟨B1, B2, rfl, hv, hb⟩))
 have HV := Aside0.mk hv
 clear hv
 have hbk := blk_below (blk_new w (.cells #[.bool false, .bool false, .bool false, .nilFunc] 71)) hb
 have hcz0 := bc4_0 hbk
 have hcz1 := bc4_1 hbk
 have hcz2 := bc4_2 hbk
 have hcz3 := bc4_3 hbk
 have hfz0 := blk_frozen hbk 0
 have hfz1 := blk_frozen hbk 1
 have hfz2 := blk_frozen hbk 2
 have hfz3 := blk_frozen hbk 3
 have HBK := Aside0.mk hbk
 clear hbk
 have HB2 := Aside0.mk (below_step (below_alloc HB.out _) hb)
 clear hb
 go_wp2
 refine bodyPost_ret (v := .tuple #[.agg #[.bool true, .bool true, .bool true, .func (.func 78) #[] #[.pointer (some ⟨B1, 0, none⟩), .pointer (some ⟨B2, 0, none⟩)]], .bool true]) (by simp [results, Tryd.results42, go_sem, hcz0, hcz1, hcz2, hcz3, hfz0, hfz1, hfz2, hfz3]) rfl ⟨?_, ?_⟩
 ·exact ⟨B1, B2, rfl, ((((HV.out.far (p := ⟨w.heap.size, 0, none⟩) (by first | (simp; done) | (simp; omega)) _).far (p := ⟨w.heap.size, 1, none⟩) (by first | (simp; done) | (simp; omega)) _).far (p := ⟨w.heap.size, 2, none⟩) (by first | (simp; done) | (simp; omega)) _).far (p := ⟨w.heap.size, 3, none⟩) (by first | (simp; done) | (simp; omega)) _).lower (by simp)⟩
 ·exact (((HB2.out.setCell (p := ⟨w.heap.size, 0, none⟩) (Nat.le_refl _) _).setCell (p := ⟨w.heap.size, 1, none⟩) (Nat.le_refl _) _).setCell (p := ⟨w.heap.size, 2, none⟩) (Nat.le_refl _) _).setCell (p := ⟨w.heap.size, 3, none⟩) (Nat.le_refl _) _
set_option maxHeartbeats 4000000 in
theorem rules_3 (w : World) : Calls Tryd.prog 42 #[.int .i64 3] w fun e w' => RuleIs 3 w e w' ∧ Below w.heap.size w w' := by
 have HB := Aside0.mk (Below.refl w.heap.size w)
 go_enter Tryd.func42, Tryd.ntmps42
 go_upto_region 2 with (first | (go_at_call 61; refine (from_calls _ _ _).mono ?_; rintro e w2 ⟨B1, B2, rfl, hv, hb⟩))
 have HV := Aside0.mk hv
 clear hv
 have hbk := blk_below (blk_new w (.cells #[.bool false, .bool false, .bool false, .nilFunc] 71)) hb
 have hcz0 := bc4_0 hbk
 have hcz1 := bc4_1 hbk
 have hcz2 := bc4_2 hbk
 have hcz3 := bc4_3 hbk
 have hfz0 := blk_frozen hbk 0
 have hfz1 := blk_frozen hbk 1
 have hfz2 := blk_frozen hbk 2
 have hfz3 := blk_frozen hbk 3
 have HBK := Aside0.mk hbk
 clear hbk
 have HB2 := Aside0.mk (below_step (below_alloc HB.out _) hb)
 clear hb
 go_wp2_with (first | (go_at_call 61; refine (from_calls _ _ _).mono ?_; rintro e w3 ⟨B3, B4, rfl, hv3, hb3⟩; have HV3 := Aside0.mk hv3; clear hv3; have n1_ := Aside0.mk (blk_below HBK.out hb3); have n2_ := Aside0.mk (below_step HB2.out hb3); clear hb3; have HBK3 := n1_; have HB3 := n2_; clear n1_ n2_; have hd0 := bc4_0 HBK3.out; have hd1 := bc4_1 HBK3.out; have hd2 := bc4_2 HBK3.out; have hd3 := bc4_3 HBK3.out; have hf0 := blk_frozen HBK3.out 0; have hf1 := blk_frozen HBK3.out 1; have hf2 := blk_frozen HBK3.out 2; have hf3 := blk_frozen HBK3.out 3; clear hcz0 hcz1 hcz2 hcz3 hfz0 hfz1 hfz2 hfz3))
 refine bodyPost_ret (v := .tuple #[.agg #[.bool true, .bool true, .bool false, .func (.func 78) #[] #[.pointer (some ⟨B3, 0, none⟩), .pointer (some ⟨B4, 0, none⟩)]], .bool true]) (by simp [results, Tryd.results42, go_sem, hd0, hd1, hd2, hd3, hf0, hf1, hf2, hf3]) rfl ⟨?_, ?_⟩
 ·exact ⟨B3, B4, rfl, (((((Aside0.mk (HV3.out.lower (base' := w.heap.size + 1) (by have := blk_lt HBK.out; omega))).out.far (p := ⟨w.heap.size, 0, none⟩) (by first | (simp; done) | (simp; omega)) _).far (p := ⟨w.heap.size, 1, none⟩) (by first | (simp; done) | (simp; omega)) _).far (p := ⟨w.heap.size, 2, none⟩) (by first | (simp; done) | (simp; omega)) _).far (p := ⟨w.heap.size, 3, none⟩) (by first | (simp; done) | (simp; omega)) _).lower (by have := HB2.out.size; omega)⟩
 ·exact (((HB3.out.setCell (p := ⟨w.heap.size, 0, none⟩) (Nat.le_refl _) _).setCell (p := ⟨w.heap.size, 1, none⟩) (Nat.le_refl _) _).setCell (p := ⟨w.heap.size, 2, none⟩) (Nat.le_refl _) _).setCell (p := ⟨w.heap.size, 3, none⟩) (Nat.le_refl _) _
set_option maxHeartbeats 4000000 in
theorem rules_4 (w : World) : Calls Tryd.prog 42 #[.int .i64 4] w fun e w' => RuleIs 4 w e w' ∧ Below w.heap.size w w' := by
 have HB := Aside0.mk (Below.refl w.heap.size w)
 go_enter Tryd.func42, Tryd.ntmps42
 go_upto_region 2 with (first | (go_at_call 61; refine (from_calls _ _ _).mono ?_; rintro e w2 ⟨B1, B2, rfl, hv, hb⟩))
 have HV := Aside0.mk hv
 clear hv
 have hbk := blk_below (blk_new w (.cells #[.bool false, .bool false, .bool false, .nilFunc] 71)) hb
 have hcz0 := bc4_0 hbk
 have hcz1 := bc4_1 hbk
 have hcz2 := bc4_2 hbk
 have hcz3 := bc4_3 hbk
 have hfz0 := blk_frozen hbk 0
 have hfz1 := blk_frozen hbk 1
 have hfz2 := blk_frozen hbk 2
 have hfz3 := blk_frozen hbk 3
 have HBK := Aside0.mk hbk
 clear hbk
 have HB2 := Aside0.mk (below_step (below_alloc HB.out _) hb)
 clear hb
 go_wp2
 refine bodyPost_ret (v := .tuple #[.agg #[.bool false, .bool true, .bool false, .func (.func 78) #[] #[.pointer (some ⟨B1, 0, none⟩), .pointer (some ⟨B2, 0, none⟩)]], .bool true]) (by simp [results, Tryd.results42, go_sem, hcz0, hcz1, hcz2, hcz3, hfz0, hfz1, hfz2, hfz3]) rfl ⟨?_, ?_⟩
 ·exact ⟨B1, B2, rfl, ((((HV.out.far (p := ⟨w.heap.size, 0, none⟩) (by first | (simp; done) | (simp; omega)) _).far (p := ⟨w.heap.size, 1, none⟩) (by first | (simp; done) | (simp; omega)) _).far (p := ⟨w.heap.size, 2, none⟩) (by first | (simp; done) | (simp; omega)) _).far (p := ⟨w.heap.size, 3, none⟩) (by first | (simp; done) | (simp; omega)) _).lower (by simp)⟩
 ·exact (((HB2.out.setCell (p := ⟨w.heap.size, 0, none⟩) (Nat.le_refl _) _).setCell (p := ⟨w.heap.size, 1, none⟩) (Nat.le_refl _) _).setCell (p := ⟨w.heap.size, 2, none⟩) (Nat.le_refl _) _).setCell (p := ⟨w.heap.size, 3, none⟩) (Nat.le_refl _) _
set_option maxHeartbeats 4000000 in
theorem rules_5 (w : World) : Calls Tryd.prog 42 #[.int .i64 5] w fun e w' => RuleIs 5 w e w' ∧ Below w.heap.size w w' := by
 have HB := Aside0.mk (Below.refl w.heap.size w)
 go_enter Tryd.func42, Tryd.ntmps42
 go_upto_region 2 with (first | (go_at_call 61; refine (from_calls _ _ _).mono ?_; rintro e w2 ⟨B1, B2, rfl, hv, hb⟩))
 have HV := Aside0.mk hv
 clear hv
 have hbk := blk_below (blk_new w (.cells #[.bool false, .bool false, .bool false, .nilFunc] 71)) hb
 have hcz0 := bc4_0 hbk
 have hcz1 := bc4_1 hbk
 have hcz2 := bc4_2 hbk
 have hcz3 := bc4_3 hbk
 have hfz0 := blk_frozen hbk 0
 have hfz1 := blk_frozen hbk 1
 have hfz2 := blk_frozen hbk 2
 have hfz3 := blk_frozen hbk 3
 have HBK := Aside0.mk hbk
 clear hbk
 have HB2 := Aside0.mk (below_step (below_alloc HB.out _) hb)
 clear hb
 go_wp2_with (first | (go_at_call 61; refine (from_calls _ _ _).mono ?_; rintro e w3 ⟨B3, B4, rfl, hv3, hb3⟩; have HV3 := Aside0.mk hv3; clear hv3; have n1_ := Aside0.mk (blk_below HBK.out hb3); have n2_ := Aside0.mk (below_step HB2.out hb3); clear hb3; have HBK3 := n1_; have HB3 := n2_; clear n1_ n2_; have hd0 := bc4_0 HBK3.out; have hd1 := bc4_1 HBK3.out; have hd2 := bc4_2 HBK3.out; have hd3 := bc4_3 HBK3.out; have hf0 := blk_frozen HBK3.out 0; have hf1 := blk_frozen HBK3.out 1; have hf2 := blk_frozen HBK3.out 2; have hf3 := blk_frozen HBK3.out 3; clear hcz0 hcz1 hcz2 hcz3 hfz0 hfz1 hfz2 hfz3))
 refine bodyPost_ret (v := .tuple #[.agg #[.bool false, .bool true, .bool false, .func (.func 78) #[] #[.pointer (some ⟨B3, 0, none⟩), .pointer (some ⟨B4, 0, none⟩)]], .bool true]) (by simp [results, Tryd.results42, go_sem, hd0, hd1, hd2, hd3, hf0, hf1, hf2, hf3]) rfl ⟨?_, ?_⟩
 ·exact ⟨B3, B4, rfl, (((((Aside0.mk (HV3.out.lower (base' := w.heap.size + 1) (by have := blk_lt HBK.out; omega))).out.far (p := ⟨w.heap.size, 0, none⟩) (by first | (simp; done) | (simp; omega)) _).far (p := ⟨w.heap.size, 1, none⟩) (by first | (simp; done) | (simp; omega)) _).far (p := ⟨w.heap.size, 2, none⟩) (by first | (simp; done) | (simp; omega)) _).far (p := ⟨w.heap.size, 3, none⟩) (by first | (simp; done) | (simp; omega)) _).lower (by have := HB2.out.size; omega)⟩
 ·exact (((HB3.out.setCell (p := ⟨w.heap.size, 0, none⟩) (Nat.le_refl _) _).setCell (p := ⟨w.heap.size, 1, none⟩) (Nat.le_refl _) _).setCell (p := ⟨w.heap.size, 2, none⟩) (Nat.le_refl _) _).setCell (p := ⟨w.heap.size, 3, none⟩) (Nat.le_refl _) _
set_option maxHeartbeats 4000000 in
theorem rules_6 (w : World) : Calls Tryd.prog 42 #[.int .i64 6] w fun e w' => RuleIs 6 w e w' ∧ Below w.heap.size w w' := by
 have HB := Aside0.mk (Below.refl w.heap.size w)
 go_enter Tryd.func42, Tryd.ntmps42
 go_upto_region 2 with (first | (go_at_call 61; refine (from_calls _ _ _).mono ?_; rintro e w2 ⟨B1, B2, rfl, hv, hb⟩))
 have HV := Aside0.mk hv
 clear hv
 have hbk := blk_below (blk_new w (.cells #[.bool false, .bool false, .bool false, .nilFunc] 71)) hb
 have hcz0 := bc4_0 hbk
 have hcz1 := bc4_1 hbk
 have hcz2 := bc4_2 hbk
 have hcz3 := bc4_3 hbk
 have hfz0 := blk_frozen hbk 0
 have hfz1 := blk_frozen hbk 1
 have hfz2 := blk_frozen hbk 2
 have hfz3 := blk_frozen hbk 3
 have HBK := Aside0.mk hbk
 clear hbk
 have HB2 := Aside0.mk (below_step (below_alloc HB.out _) hb)
 clear hb
 go_wp2_with (first | (go_at_call 61; refine (from_calls _ _ _).mono ?_; rintro e w3 ⟨B3, B4, rfl, hv3, hb3⟩; have HV3 := Aside0.mk hv3; clear hv3; have n1_ := Aside0.mk (blk_below HBK.out hb3); have n2_ := Aside0.mk (below_step HB2.out hb3); clear hb3; have HBK3 := n1_; have HB3 := n2_; clear n1_ n2_; have hd0 := bc4_0 HBK3.out; have hd1 := bc4_1 HBK3.out; have hd2 := bc4_2 HBK3.out; have hd3 := bc4_3 HBK3.out; have hf0 := blk_frozen HBK3.out 0; have hf1 := blk_frozen HBK3.out 1; have hf2 := blk_frozen HBK3.out 2; have hf3 := blk_frozen HBK3.out 3; clear hcz0 hcz1 hcz2 hcz3 hfz0 hfz1 hfz2 hfz3))
 refine bodyPost_ret (v := .tuple #[.agg #[.bool false, .bool true, .bool false, .func (.func 78) #[] #[.pointer (some ⟨B3, 0, none⟩), .pointer (some ⟨B4, 0, none⟩)]], .bool true]) (by simp [results, Tryd.results42, go_sem, hd0, hd1, hd2, hd3, hf0, hf1, hf2, hf3]) rfl ⟨?_, ?_⟩
 ·exact ⟨B3, B4, rfl, (((((Aside0.mk (HV3.out.lower (base' := w.heap.size + 1) (by have := blk_lt HBK.out; omega))).out.far (p := ⟨w.heap.size, 0, none⟩) (by first | (simp; done) | (simp; omega)) _).far (p := ⟨w.heap.size, 1, none⟩) (by first | (simp; done) | (simp; omega)) _).far (p := ⟨w.heap.size, 2, none⟩) (by first | (simp; done) | (simp; omega)) _).far (p := ⟨w.heap.size, 3, none⟩) (by first | (simp; done) | (simp; omega)) _).lower (by have := HB2.out.size; omega)⟩
 ·exact (((HB3.out.setCell (p := ⟨w.heap.size, 0, none⟩) (Nat.le_refl _) _).setCell (p := ⟨w.heap.size, 1, none⟩) (Nat.le_refl _) _).setCell (p := ⟨w.heap.size, 2, none⟩) (Nat.le_refl _) _).setCell (p := ⟨w.heap.size, 3, none⟩) (Nat.le_refl _) _
set_option maxHeartbeats 4000000 in
theorem rules_7 (w : World) : Calls Tryd.prog 42 #[.int .i64 7] w fun e w' => RuleIs 7 w e w' ∧ Below w.heap.size w w' := by
 have HB := Aside0.mk (Below.refl w.heap.size w)
 go_enter Tryd.func42, Tryd.ntmps42
 go_upto_region 2 with (first | (go_at_call 61; refine (from_calls _ _ _).mono ?_; rintro e w2 ⟨B1, B2, rfl, hv, hb⟩))
 have HV := Aside0.mk hv
 clear hv
 have hbk := blk_below (blk_new w (.cells #[.bool false, .bool false, .bool false, .nilFunc] 71)) hb
 have hcz0 := bc4_0 hbk
 have hcz1 := bc4_1 hbk
 have hcz2 := bc4_2 hbk
 have hcz3 := bc4_3 hbk
 have hfz0 := blk_frozen hbk 0
 have hfz1 := blk_frozen hbk 1
 have hfz2 := blk_frozen hbk 2
 have hfz3 := blk_frozen hbk 3
 have HBK := Aside0.mk hbk
 clear hbk
 have HB2 := Aside0.mk (below_step (below_alloc HB.out _) hb)
 clear hb
 go_wp2_with (first | (go_at_call 61; refine (from_calls _ _ _).mono ?_; rintro e w3 ⟨B3, B4, rfl, hv3, hb3⟩; have HV3 := Aside0.mk hv3; clear hv3; have n1_ := Aside0.mk (blk_below HBK.out hb3); have n2_ := Aside0.mk (below_step HB2.out hb3); clear hb3; have HBK3 := n1_; have HB3 := n2_; clear n1_ n2_; have hd0 := bc4_0 HBK3.out; have hd1 := bc4_1 HBK3.out; have hd2 := bc4_2 HBK3.out; have hd3 := bc4_3 HBK3.out; have hf0 := blk_frozen HBK3.out 0; have hf1 := blk_frozen HBK3.out 1; have hf2 := blk_frozen HBK3.out 2; have hf3 := blk_frozen HBK3.out 3; clear hcz0 hcz1 hcz2 hcz3 hfz0 hfz1 hfz2 hfz3))
 refine bodyPost_ret (v := .tuple #[.agg #[.bool false, .bool true, .bool false, .func (.func 78) #[] #[.pointer (some ⟨B3, 0, none⟩), .pointer (some ⟨B4, 0, none⟩)]], .bool true]) (by simp [results, Tryd.results42, go_sem, hd0, hd1, hd2, hd3, hf0, hf1, hf2, hf3]) rfl ⟨?_, ?_⟩
 ·exact ⟨B3, B4, rfl, (((((Aside0.mk (HV3.out.lower (base' := w.heap.size + 1) (by have := blk_lt HBK.out; omega))).out.far (p := ⟨w.heap.size, 0, none⟩) (by first | (simp; done) | (simp; omega)) _).far (p := ⟨w.heap.size, 1, none⟩) (by first | (simp; done) | (simp; omega)) _).far (p := ⟨w.heap.size, 2, none⟩) (by first | (simp; done) | (simp; omega)) _).far (p := ⟨w.heap.size, 3, none⟩) (by first | (simp; done) | (simp; omega)) _).lower (by have := HB2.out.size; omega)⟩
 ·exact (((HB3.out.setCell (p := ⟨w.heap.size, 0, none⟩) (Nat.le_refl _) _).setCell (p := ⟨w.heap.size, 1, none⟩) (Nat.le_refl _) _).setCell (p := ⟨w.heap.size, 2, none⟩) (Nat.le_refl _) _).setCell (p := ⟨w.heap.size, 3, none⟩) (Nat.le_refl _) _
set_option maxHeartbeats 4000000 in
theorem rules_8 (w : World) : Calls Tryd.prog 42 #[.int .i64 8] w fun e w' => RuleIs 8 w e w' ∧ Below w.heap.size w w' := by
 have HB := Aside0.mk (Below.refl w.heap.size w)
 go_enter Tryd.func42, Tryd.ntmps42
 go_upto_region 2 with (first | (go_at_call 61; refine (from_calls _ _ _).mono ?_; rintro e w2 ⟨B1, B2, rfl, hv, hb⟩))
 have HV := Aside0.mk hv
 clear hv
 have hbk := blk_below (blk_new w (.cells #[.bool false, .bool false, .bool false, .nilFunc] 71)) hb
 have hcz0 := bc4_0 hbk
 have hcz1 := bc4_1 hbk
 have hcz2 := bc4_2 hbk
 have hcz3 := bc4_3 hbk
 have hfz0 := blk_frozen hbk 0
 have hfz1 := blk_frozen hbk 1
 have hfz2 := blk_frozen hbk 2
 have hfz3 := blk_frozen hbk 3
 have HBK := Aside0.mk hbk
 clear hbk
 have HB2 := Aside0.mk (below_step (below_alloc HB.out _) hb)
 clear hb
 go_wp2_with (first | (go_at_call 61; refine (from_calls _ _ _).mono ?_; rintro e w3 ⟨B3, B4, rfl, hv3, hb3⟩; have HV3 := Aside0.mk hv3; clear hv3; have n1_ := Aside0.mk (blk_below HBK.out hb3); have n2_ := Aside0.mk (below_step HB2.out hb3); clear hb3; have HBK3 := n1_; have HB3 := n2_; clear n1_ n2_; have hd0 := bc4_0 HBK3.out; have hd1 := bc4_1 HBK3.out; have hd2 := bc4_2 HBK3.out; have hd3 := bc4_3 HBK3.out; have hf0 := blk_frozen HBK3.out 0; have hf1 := blk_frozen HBK3.out 1; have hf2 := blk_frozen HBK3.out 2; have hf3 := blk_frozen HBK3.out 3; clear hcz0 hcz1 hcz2 hcz3 hfz0 hfz1 hfz2 hfz3))
 refine bodyPost_ret (v := .tuple #[.agg #[.bool true, .bool false, .bool false, .func (.func 78) #[] #[.pointer (some ⟨B3, 0, none⟩), .pointer (some ⟨B4, 0, none⟩)]], .bool true]) (by simp [results, Tryd.results42, go_sem, hd0, hd1, hd2, hd3, hf0, hf1, hf2, hf3]) rfl ⟨?_, ?_⟩
 ·exact ⟨B3, B4, rfl, (((((Aside0.mk (HV3.out.lower (base' := w.heap.size + 1) (by have := blk_lt HBK.out; omega))).out.far (p := ⟨w.heap.size, 0, none⟩) (by first | (simp; done) | (simp; omega)) _).far (p := ⟨w.heap.size, 1, none⟩) (by first | (simp; done) | (simp; omega)) _).far (p := ⟨w.heap.size, 2, none⟩) (by first | (simp; done) | (simp; omega)) _).far (p := ⟨w.heap.size, 3, none⟩) (by first | (simp; done) | (simp; omega)) _).lower (by have := HB2.out.size; omega)⟩
 ·exact (((HB3.out.setCell (p := ⟨w.heap.size, 0, none⟩) (Nat.le_refl _) _).setCell (p := ⟨w.heap.size, 1, none⟩) (Nat.le_refl _) _).setCell (p := ⟨w.heap.size, 2, none⟩) (Nat.le_refl _) _).setCell (p := ⟨w.heap.size, 3, none⟩) (Nat.le_refl _) _
set_option maxHeartbeats 4000000 in
theorem rules_9 (w : World) : Calls Tryd.prog 42 #[.int .i64 9] w fun e w' => RuleIs 9 w e w' ∧ Below w.heap.size w w' := by
 have HB := Aside0.mk (Below.refl w.heap.size w)
 go_enter Tryd.func42, Tryd.ntmps42
 go_upto_region 2 with (first | (go_at_call 61; refine (from_calls _ _ _).mono ?_; rintro e w2 ⟨B1, B2, rfl, hv, hb⟩))
 have HV := Aside0.mk hv
 clear hv
 have hbk := blk_below (blk_new w (.cells #[.bool false, .bool false, .bool false, .nilFunc] 71)) hb
 have hcz0 := bc4_0 hbk
 have hcz1 := bc4_1 hbk
 have hcz2 := bc4_2 hbk
 have hcz3 := bc4_3 hbk
 have hfz0 := blk_frozen hbk 0
 have hfz1 := blk_frozen hbk 1
 have hfz2 := blk_frozen hbk 2
 have hfz3 := blk_frozen hbk 3
 have HBK := Aside0.mk hbk
 clear hbk
 have HB2 := Aside0.mk (below_step (below_alloc HB.out _) hb)
 clear hb
 go_wp2_with (first | (go_at_call 61; refine (from_calls _ _ _).mono ?_; rintro e w3 ⟨B3, B4, rfl, hv3, hb3⟩; have HV3 := Aside0.mk hv3; clear hv3; have n1_ := Aside0.mk (blk_below HBK.out hb3); have n2_ := Aside0.mk (below_step HB2.out hb3); clear hb3; have HBK3 := n1_; have HB3 := n2_; clear n1_ n2_; have hd0 := bc4_0 HBK3.out; have hd1 := bc4_1 HBK3.out; have hd2 := bc4_2 HBK3.out; have hd3 := bc4_3 HBK3.out; have hf0 := blk_frozen HBK3.out 0; have hf1 := blk_frozen HBK3.out 1; have hf2 := blk_frozen HBK3.out 2; have hf3 := blk_frozen HBK3.out 3; clear hcz0 hcz1 hcz2 hcz3 hfz0 hfz1 hfz2 hfz3))
 refine bodyPost_ret (v := .tuple #[.agg #[.bool true, .bool false, .bool false, .func (.func 78) #[] #[.pointer (some ⟨B3, 0, none⟩), .pointer (some ⟨B4, 0, none⟩)]], .bool true]) (by simp [results, Tryd.results42, go_sem, hd0, hd1, hd2, hd3, hf0, hf1, hf2, hf3]) rfl ⟨?_, ?_⟩
 ·exact ⟨B3, B4, rfl, (((((Aside0.mk (HV3.out.lower (base' := w.heap.size + 1) (by have := blk_lt HBK.out; omega))).out.far (p := ⟨w.heap.size, 0, none⟩) (by first | (simp; done) | (simp; omega)) _).far (p := ⟨w.heap.size, 1, none⟩) (by first | (simp; done) | (simp; omega)) _).far (p := ⟨w.heap.size, 2, none⟩) (by first | (simp; done) | (simp; omega)) _).far (p := ⟨w.heap.size, 3, none⟩) (by first | (simp; done) | (simp; omega)) _).lower (by have := HB2.out.size; omega)⟩
 ·exact (((HB3.out.setCell (p := ⟨w.heap.size, 0, none⟩) (Nat.le_refl _) _).setCell (p := ⟨w.heap.size, 1, none⟩) (Nat.le_refl _) _).setCell (p := ⟨w.heap.size, 2, none⟩) (Nat.le_refl _) _).setCell (p := ⟨w.heap.size, 3, none⟩) (Nat.le_refl _) _
set_option maxHeartbeats 4000000 in
theorem rules_10 (w : World) : Calls Tryd.prog 42 #[.int .i64 10] w fun e w' => RuleIs 10 w e w' ∧ Below w.heap.size w w' := by
 have HB := Aside0.mk (Below.refl w.heap.size w)
 go_enter Tryd.func42, Tryd.ntmps42
 go_upto_region 2 with (first | (go_at_call 61; refine (from_calls _ _ _).mono ?_; rintro e w2 ⟨B1, B2, rfl, hv, hb⟩))
 have HV := Aside0.mk hv
 clear hv
 have hbk := blk_below (blk_new w (.cells #[.bool false, .bool false, .bool false, .nilFunc] 71)) hb
 have hcz0 := bc4_0 hbk
 have hcz1 := bc4_1 hbk
 have hcz2 := bc4_2 hbk
 have hcz3 := bc4_3 hbk
 have hfz0 := blk_frozen hbk 0
 have hfz1 := blk_frozen hbk 1
 have hfz2 := blk_frozen hbk 2
 have hfz3 := blk_frozen hbk 3
 have HBK := Aside0.mk hbk
 clear hbk
 have HB2 := Aside0.mk (below_step (below_alloc HB.out _) hb)
 clear hb
 go_wp2_with (first | (go_at_call 61; refine (from_calls _ _ _).mono ?_; rintro e w3 ⟨B3, B4, rfl, hv3, hb3⟩; have HV3 := Aside0.mk hv3; clear hv3; have n1_ := Aside0.mk (blk_below HBK.out hb3); have n2_ := Aside0.mk (below_step HB2.out hb3); clear hb3; have HBK3 := n1_; have HB3 := n2_; clear n1_ n2_; have hd0 := bc4_0 HBK3.out; have hd1 := bc4_1 HBK3.out; have hd2 := bc4_2 HBK3.out; have hd3 := bc4_3 HBK3.out; have hf0 := blk_frozen HBK3.out 0; have hf1 := blk_frozen HBK3.out 1; have hf2 := blk_frozen HBK3.out 2; have hf3 := blk_frozen HBK3.out 3; clear hcz0 hcz1 hcz2 hcz3 hfz0 hfz1 hfz2 hfz3))
 refine bodyPost_ret (v := .tuple #[.agg #[.bool false, .bool false, .bool false, .func (.func 78) #[] #[.pointer (some ⟨B3, 0, none⟩), .pointer (some ⟨B4, 0, none⟩)]], .bool true]) (by simp [results, Tryd.results42, go_sem, hd0, hd1, hd2, hd3, hf0, hf1, hf2, hf3]) rfl ⟨?_, ?_⟩
 ·exact ⟨B3, B4, rfl, (((((Aside0.mk (HV3.out.lower (base' := w.heap.size + 1) (by have := blk_lt HBK.out; omega))).out.far (p := ⟨w.heap.size, 0, none⟩) (by first | (simp; done) | (simp; omega)) _).far (p := ⟨w.heap.size, 1, none⟩) (by first | (simp; done) | (simp; omega)) _).far (p := ⟨w.heap.size, 2, none⟩) (by first | (simp; done) | (simp; omega)) _).far (p := ⟨w.heap.size, 3, none⟩) (by first | (simp; done) | (simp; omega)) _).lower (by have := HB2.out.size; omega)⟩
 ·exact (((HB3.out.setCell (p := ⟨w.heap.size, 0, none⟩) (Nat.le_refl _) _).setCell (p := ⟨w.heap.size, 1, none⟩) (Nat.le_refl _) _).setCell (p := ⟨w.heap.size, 2, none⟩) (Nat.le_refl _) _).setCell (p := ⟨w.heap.size, 3, none⟩) (Nat.le_refl _) _
set_option maxHeartbeats 4000000 in
theorem rules_11 (w : World) : Calls Tryd.prog 42 #[.int .i64 11] w fun e w' => RuleIs 11 w e w' ∧ Below w.heap.size w w' := by
 have HB := Aside0.mk (Below.refl w.heap.size w)
 go_enter Tryd.func42, Tryd.ntmps42
 go_upto_region 2 with (first | (go_at_call 61; refine (from_calls _ _ _).mono ?_; rintro e w2 ⟨B1, B2, rfl, hv, hb⟩))
 have HV := Aside0.mk hv
 clear hv
 have hbk := blk_below (blk_new w (.cells #[.bool false, .bool false, .bool false, .nilFunc] 71)) hb
 have hcz0 := bc4_0 hbk
 have hcz1 := bc4_1 hbk
 have hcz2 := bc4_2 hbk
 have hcz3 := bc4_3 hbk
 have hfz0 := blk_frozen hbk 0
 have hfz1 := blk_frozen hbk 1
 have hfz2 := blk_frozen hbk 2
 have hfz3 := blk_frozen hbk 3
 have HBK := Aside0.mk hbk
 clear hbk
 have HB2 := Aside0.mk (below_step (below_alloc HB.out _) hb)
 clear hb
 go_wp2_with (first | (go_at_call 61; refine (from_calls _ _ _).mono ?_; rintro e w3 ⟨B3, B4, rfl, hv3, hb3⟩; have HV3 := Aside0.mk hv3; clear hv3; have n1_ := Aside0.mk (blk_below HBK.out hb3); have n2_ := Aside0.mk (below_step HB2.out hb3); clear hb3; have HBK3 := n1_; have HB3 := n2_; clear n1_ n2_; have hd0 := bc4_0 HBK3.out; have hd1 := bc4_1 HBK3.out; have hd2 := bc4_2 HBK3.out; have hd3 := bc4_3 HBK3.out; have hf0 := blk_frozen HBK3.out 0; have hf1 := blk_frozen HBK3.out 1; have hf2 := blk_frozen HBK3.out 2; have hf3 := blk_frozen HBK3.out 3; clear hcz0 hcz1 hcz2 hcz3 hfz0 hfz1 hfz2 hfz3))
 refine bodyPost_ret (v := .tuple #[.agg #[.bool false, .bool false, .bool false, .func (.func 78) #[] #[.pointer (some ⟨B3, 0, none⟩), .pointer (some ⟨B4, 0, none⟩)]], .bool true]) (by simp [results, Tryd.results42, go_sem, hd0, hd1, hd2, hd3, hf0, hf1, hf2, hf3]) rfl ⟨?_, ?_⟩
 ·exact ⟨B3, B4, rfl, (((((Aside0.mk (HV3.out.lower (base' := w.heap.size + 1) (by have := blk_lt HBK.out; omega))).out.far (p := ⟨w.heap.size, 0, none⟩) (by first | (simp; done) | (simp; omega)) _).far (p := ⟨w.heap.size, 1, none⟩) (by first | (simp; done) | (simp; omega)) _).far (p := ⟨w.heap.size, 2, none⟩) (by first | (simp; done) | (simp; omega)) _).far (p := ⟨w.heap.size, 3, none⟩) (by first | (simp; done) | (simp; omega)) _).lower (by have := HB2.out.size; omega)⟩
 ·exact (((HB3.out.setCell (p := ⟨w.heap.size, 0, none⟩) (Nat.le_refl _) _).setCell (p := ⟨w.heap.size, 1, none⟩) (Nat.le_refl _) _).setCell (p := ⟨w.heap.size, 2, none⟩) (Nat.le_refl _) _).setCell (p := ⟨w.heap.size, 3, none⟩) (Nat.le_refl _) _
set_option maxHeartbeats 4000000 in
theorem rules_0 (k : Int) (h1 : (k == 1) = false) (h2 : (k == 2) = false) (h3 : (k == 3) = false) (h4 : (k == 4) = false) (h5 : (k == 5) = false) (h6 : (k == 6) = false) (h7 : (k == 7) = false) (h8 : (k == 8) = false) (h9 : (k == 9) = false) (h10 : (k == 10) = false) (h11 : (k == 11) = false) (hn : ruleV k = none) (w : World) : Calls Tryd.prog 42 #[.int .i64 k] w fun e w' => RuleIs k w e w' ∧ Below w.heap.size w w' := by
 have HN := Aside0.mk hn
 clear hn
 have HB := Aside0.mk (Below.refl w.heap.size w)
 go_enter Tryd.func42, Tryd.ntmps42
 go_upto_region 2 with (first | (go_at_call 61; refine (from_calls _ _ _).mono ?_; rintro e w2 ⟨B1, B2, rfl, hv, hb⟩))
 have HV := Aside0.mk hv
 clear hv
 have hbk := blk_below (blk_new w (.cells #[.bool false, .bool false, .bool false, .nilFunc] 71)) hb
 have hcz0 := bc4_0 hbk
 have hcz1 := bc4_1 hbk
 have hcz2 := bc4_2 hbk
 have hcz3 := bc4_3 hbk
 have hfz0 := blk_frozen hbk 0
 have hfz1 := blk_frozen hbk 1
 have hfz2 := blk_frozen hbk 2
 have hfz3 := blk_frozen hbk 3
 have HBK := Aside0.mk hbk
 clear hbk
 have HB2 := Aside0.mk (below_step (below_alloc HB.out _) hb)
 clear hb
 go_wp2
 refine bodyPost_ret (v := .tuple #[.agg #[.bool false, .bool false, .bool false, .nilFunc], .bool false]) (by simp [results, Tryd.results42, go_sem, hcz0, hcz1, hcz2, hcz3, hfz0, hfz1, hfz2, hfz3]) rfl ⟨?_, ?_⟩
 ·unfold RuleIs; rw [HN.out]
 ·exact (((HB2.out.setCell (p := ⟨w.heap.size, 0, none⟩) (Nat.le_refl _) _).setCell (p := ⟨w.heap.size, 1, none⟩) (Nat.le_refl _) _).setCell (p := ⟨w.heap.size, 2, none⟩) (Nat.le_refl _) _).setCell (p := ⟨w.heap.size, 3, none⟩) (Nat.le_refl _) _
theorem rules_calls (k : Int) (w : World) : Calls Tryd.prog 42 #[.int .i64 k] w fun e w' => RuleIs k w e w' ∧ Below w.heap.size w w' := by
 by_cases h1 : k = 1
 ·subst h1; exact rules_1 w
 by_cases h2 : k = 2
 ·subst h2; exact rules_2 w
 by_cases h3 : k = 3
 ·subst h3; exact rules_3 w
 by_cases h4 : k = 4
 ·subst h4; exact rules_4 w
 by_cases h5 : k = 5
 ·subst h5; exact rules_5 w
 by_cases h6 : k = 6
 ·subst h6; exact rules_6 w
 by_cases h7 : k = 7
 ·subst h7; exact rules_7 w
 by_cases h8 : k = 8
 ·subst h8; exact rules_8 w
 by_cases h9 : k = 9
 ·subst h9; exact rules_9 w
 by_cases h10 : k = 10
 ·subst h10; exact rules_10 w
 by_cases h11 : k = 11
 ·subst h11; exact rules_11 w
 exact rules_0 k (beq_eq_false_iff_ne.mpr h1) (beq_eq_false_iff_ne.mpr h2) (beq_eq_false_iff_ne.mpr h3) (beq_eq_false_iff_ne.mpr h4) (beq_eq_false_iff_ne.mpr h5) (beq_eq_false_iff_ne.mpr h6) (beq_eq_false_iff_ne.mpr h7) (beq_eq_false_iff_ne.mpr h8) (beq_eq_false_iff_ne.mpr h9) (beq_eq_false_iff_ne.mpr h10) (beq_eq_false_iff_ne.mpr h11) (by unfold ruleV; rw [if_neg h1, if_neg h2, if_neg h3, if_neg h4, if_neg h5, if_neg h6, if_neg h7, if_neg h8, if_neg h9, if_neg h10, if_neg h11]) w
def command_Right.f (a0_0 : Int) (a0_1 a0_2 : ByteArray) (a0_3 : Int) (a0_4 a0_5 : ByteArray) (a0_6 a0_7 a0_8 : Int) : Option Bool :=
 if a0_4.size + a0_5.size ≤ 9223372036854775807 then
  (match ruleV a0_0 with
  | none => some false
  | some (t, n, p, lo, hi) => (command_named.f a0_1 t).bind fun r1 => (command_named.f a0_2 n).bind fun r2 =>
   some (r1 && r2 && (decide (lo ≤ a0_6) && decide (a0_6 ≤ hi)) && (decide (0 ≤ a0_7) && decide (0 ≤ a0_8) && decide (0 ≤ a0_3)) && decide (a0_7 < 7) && (decide (a0_8 ≤ 9007199254740991) && decide (a0_3 ≤ 9007199254740991)) &&
    (if p = true then decide (a0_4.size ≤ 100) && decide (a0_5.size ≤ 1000) else decide (a0_3 = 0) && (a0_4.toList == ([] : List UInt8)) && (a0_5.toList == ([] : List UInt8)))))
 else none
set_option maxHeartbeats 4000000 in
set_option maxRecDepth 100000 in
theorem right_none (a0_0 : Int) (a0_1 a0_2 : ByteArray) (a0_3 : Int) (a0_4 a0_5 : ByteArray) (a0_6 a0_7 a0_8 : Int) (w : World) (hv : ruleV a0_0 = none) :
  Calls Tryd.prog 16 #[.agg #[.int .i64 a0_0, .string a0_1, .string a0_2, .int .i64 a0_3, .string a0_4, .string a0_5, .int .i64 a0_6, .int .i64 a0_7, .int .i64 a0_8]] w fun e w' => e = .returned (.bool false) ∧ Below w.heap.size w w' := by
 have HV := Aside0.mk hv
 clear hv
 have HB := Aside0.mk (Below.refl w.heap.size w)
 go_enter Tryd.func16, Tryd.ntmps16
 go_wp2_with (first | (go_at_call 42; refine (rules_calls _ _).mono ?_; rintro e w2 ⟨hR, hb⟩; unfold RuleIs at hR; rw [HV.out] at hR; simp only [] at hR; subst hR; have n0_ := Aside0.mk (below_step (below_alloc HB.out _) hb); clear HB; have HB := n0_; clear n0_ hb))
 go_ret
 exact ⟨rfl, bw⟩
theorem isEmpty_append (a b : ByteArray) : (a ++ b).toList.isEmpty = ((a.toList == ([] : List UInt8)) && (b.toList == ([] : List UInt8))) := by
 rw [Lib.toList_data, Lib.toList_data, Lib.toList_data, ByteArray.data_append, Array.toList_append]
 cases a.data.toList <;> cases b.data.toList <;> rfl
set_option maxHeartbeats 8000000 in
set_option maxRecDepth 100000 in
theorem right_some (a0_0 : Int) (a0_1 a0_2 : ByteArray) (a0_3 : Int) (a0_4 a0_5 : ByteArray) (a0_6 a0_7 a0_8 : Int) (w : World) (t n p r1 r2 : Bool) (lo hi : Int) (r : Bool) (hz : a0_4.size + a0_5.size ≤ 9223372036854775807) (hv : ruleV a0_0 = some (t, n, p, lo, hi)) (e1 : command_named.f a0_1 t = some r1) (e2 : command_named.f a0_2 n = some r2)
  (hr : (r1 && r2 && (decide (lo ≤ a0_6) && decide (a0_6 ≤ hi)) && (decide (0 ≤ a0_7) && decide (0 ≤ a0_8) && decide (0 ≤ a0_3)) && decide (a0_7 < 7) && (decide (a0_8 ≤ 9007199254740991) && decide (a0_3 ≤ 9007199254740991)) &&
    (if p = true then decide (a0_4.size ≤ 100) && decide (a0_5.size ≤ 1000) else decide (a0_3 = 0) && (a0_4.toList == ([] : List UInt8)) && (a0_5.toList == ([] : List UInt8)))) = r) :
  Calls Tryd.prog 16 #[.agg #[.int .i64 a0_0, .string a0_1, .string a0_2, .int .i64 a0_3, .string a0_4, .string a0_5, .int .i64 a0_6, .int .i64 a0_7, .int .i64 a0_8]] w fun e w' => e = .returned (.bool r) ∧ Below w.heap.size w w' := by
 have HR := Aside0.mk hr
 have HV := Aside0.mk hv
 have E1 := Aside0.mk e1
 have E2 := Aside0.mk e2
 have HZ := Aside0.mk hz
 clear hv e1 e2 hz hr
 have HB := Aside0.mk (Below.refl w.heap.size w)
 go_enter Tryd.func16, Tryd.ntmps16
 go_upto_region 2 with (first | (go_at_call 42; refine (rules_calls _ _).mono ?_; rintro e w2 ⟨hR, hb⟩; unfold RuleIs at hR; rw [HV.out] at hR; simp only [] at hR; obtain ⟨B1, B2, rfl, hF⟩ := hR; have HF := Aside0.mk hF; clear hF; have BC := Aside0.mk (blk_below (blk_new w (.cells #[.int .i64 a0_0, .string a0_1, .string a0_2, .int .i64 a0_3, .string a0_4, .string a0_5, .int .i64 a0_6, .int .i64 a0_7, .int .i64 a0_8] 23)) hb); have n0_ := Aside0.mk (below_step (below_alloc HB.out _) hb); clear HB; have HB := n0_; clear n0_ hb))
 have hbr := blk_new w2 (.cells #[.bool t, .bool n, .bool p, .func (.func 78) #[] #[.pointer (some ⟨B1, 0, none⟩), .pointer (some ⟨B2, 0, none⟩)]] 71)
 have hbc := blk_alloc BC.out (.cells #[.bool t, .bool n, .bool p, .func (.func 78) #[] #[.pointer (some ⟨B1, 0, none⟩), .pointer (some ⟨B2, 0, none⟩)]] 71)
 have hbf := HF.out.below (below_alloc (Below.refl w2.heap.size w2) (.cells #[.bool t, .bool n, .bool p, .func (.func 78) #[] #[.pointer (some ⟨B1, 0, none⟩), .pointer (some ⟨B2, 0, none⟩)]] 71))
 have hbb := below_alloc HB.out (.cells #[.bool t, .bool n, .bool p, .func (.func 78) #[] #[.pointer (some ⟨B1, 0, none⟩), .pointer (some ⟨B2, 0, none⟩)]] 71)
 clear BC HF HB
 generalize w2.alloc (.cells #[.bool t, .bool n, .bool p, .func (.func 78) #[] #[.pointer (some ⟨B1, 0, none⟩), .pointer (some ⟨B2, 0, none⟩)]] 71) = W at *
 generalize w2.heap.size = gr at *
 have BC := Aside0.mk hbc
 have BR := Aside0.mk hbr
 have HF := Aside0.mk hbf
 have HB := Aside0.mk hbb
 clear hbc hbr hbf hbb
 have hc1 := (blk_cell BC.out 1).trans rfl
 have hc2 := (blk_cell BC.out 2).trans rfl
 have hc3 := (blk_cell BC.out 3).trans rfl
 have hc4 := (blk_cell BC.out 4).trans rfl
 have hc5 := (blk_cell BC.out 5).trans rfl
 have hc6 := (blk_cell BC.out 6).trans rfl
 have hc7 := (blk_cell BC.out 7).trans rfl
 have hc8 := (blk_cell BC.out 8).trans rfl
 have hd0 := bc4_0 BR.out
 have hd1 := bc4_1 BR.out
 have hd2 := bc4_2 BR.out
 have hd3 := bc4_3 BR.out
 cases r1
 ·obtain rfl : r = false := by rw [← HR.out]; simp
  clear HR
  go_wp2_with (first | (go_at_call 43; (with_reducible refine (command_named.calls a0_1 t _ _ E1.out).mono ?_); rintro e w3 ⟨rfl, hb⟩; have n1_ := Aside0.mk (blk_below BC.out hb); have n2_ := Aside0.mk (blk_below BR.out hb); have n3_ := Aside0.mk (HF.out.below hb); have n4_ := Aside0.mk (below_step HB.out hb); clear hc1 hc2 hc3 hc4 hc5 hc6 hc7 hc8 hd0 hd1 hd2 hd3; clear BC BR HF HB hb; have BC := n1_; have BR := n2_; have HF := n3_; have HB := n4_; clear n1_ n2_ n3_ n4_; have hc1 := (blk_cell BC.out 1).trans rfl; have hc2 := (blk_cell BC.out 2).trans rfl; have hc3 := (blk_cell BC.out 3).trans rfl; have hc4 := (blk_cell BC.out 4).trans rfl; have hc5 := (blk_cell BC.out 5).trans rfl; have hc6 := (blk_cell BC.out 6).trans rfl; have hc7 := (blk_cell BC.out 7).trans rfl; have hc8 := (blk_cell BC.out 8).trans rfl; have hd0 := bc4_0 BR.out; have hd1 := bc4_1 BR.out; have hd2 := bc4_2 BR.out; have hd3 := bc4_3 BR.out))
  go_ret
  exact ⟨rfl, HB.out⟩
 cases r2
 ·obtain rfl : r = false := by rw [← HR.out]; simp
  clear HR
  go_wp2_with (first | (go_at_call 43; (with_reducible refine (command_named.calls a0_1 t _ _ E1.out).mono ?_); rintro e w3 ⟨rfl, hb⟩; have n1_ := Aside0.mk (blk_below BC.out hb); have n2_ := Aside0.mk (blk_below BR.out hb); have n3_ := Aside0.mk (HF.out.below hb); have n4_ := Aside0.mk (below_step HB.out hb); clear hc1 hc2 hc3 hc4 hc5 hc6 hc7 hc8 hd0 hd1 hd2 hd3; clear BC BR HF HB hb; have BC := n1_; have BR := n2_; have HF := n3_; have HB := n4_; clear n1_ n2_ n3_ n4_; have hc1 := (blk_cell BC.out 1).trans rfl; have hc2 := (blk_cell BC.out 2).trans rfl; have hc3 := (blk_cell BC.out 3).trans rfl; have hc4 := (blk_cell BC.out 4).trans rfl; have hc5 := (blk_cell BC.out 5).trans rfl; have hc6 := (blk_cell BC.out 6).trans rfl; have hc7 := (blk_cell BC.out 7).trans rfl; have hc8 := (blk_cell BC.out 8).trans rfl; have hd0 := bc4_0 BR.out; have hd1 := bc4_1 BR.out; have hd2 := bc4_2 BR.out; have hd3 := bc4_3 BR.out) | (go_at_call 43; (with_reducible refine (command_named.calls a0_2 n _ _ E2.out).mono ?_); rintro e w3 ⟨rfl, hb⟩; have n1_ := Aside0.mk (blk_below BC.out hb); have n2_ := Aside0.mk (blk_below BR.out hb); have n3_ := Aside0.mk (HF.out.below hb); have n4_ := Aside0.mk (below_step HB.out hb); clear hc1 hc2 hc3 hc4 hc5 hc6 hc7 hc8 hd0 hd1 hd2 hd3; clear BC BR HF HB hb; have BC := n1_; have BR := n2_; have HF := n3_; have HB := n4_; clear n1_ n2_ n3_ n4_; have hc1 := (blk_cell BC.out 1).trans rfl; have hc2 := (blk_cell BC.out 2).trans rfl; have hc3 := (blk_cell BC.out 3).trans rfl; have hc4 := (blk_cell BC.out 4).trans rfl; have hc5 := (blk_cell BC.out 5).trans rfl; have hc6 := (blk_cell BC.out 6).trans rfl; have hc7 := (blk_cell BC.out 7).trans rfl; have hc8 := (blk_cell BC.out 8).trans rfl; have hd0 := bc4_0 BR.out; have hd1 := bc4_1 BR.out; have hd2 := bc4_2 BR.out; have hd3 := bc4_3 BR.out))
  go_ret
  exact ⟨rfl, HB.out⟩
 obtain ⟨r3, h3⟩ : ∃ r3, (decide (lo ≤ a0_6) && decide (a0_6 ≤ hi)) = r3 := ⟨_, rfl⟩
 have H3 := Aside0.mk h3
 have h_ := HR.out
 rw [h3] at h_
 clear HR h3
 have HR := Aside0.mk h_
 clear h_
 cases r3
 ·obtain rfl : r = false := by rw [← HR.out]; simp
  clear HR
  go_wp2_with (first | (go_at_call 43; (with_reducible refine (command_named.calls a0_1 t _ _ E1.out).mono ?_); rintro e w3 ⟨rfl, hb⟩; have n1_ := Aside0.mk (blk_below BC.out hb); have n2_ := Aside0.mk (blk_below BR.out hb); have n3_ := Aside0.mk (HF.out.below hb); have n4_ := Aside0.mk (below_step HB.out hb); clear hc1 hc2 hc3 hc4 hc5 hc6 hc7 hc8 hd0 hd1 hd2 hd3; clear BC BR HF HB hb; have BC := n1_; have BR := n2_; have HF := n3_; have HB := n4_; clear n1_ n2_ n3_ n4_; have hc1 := (blk_cell BC.out 1).trans rfl; have hc2 := (blk_cell BC.out 2).trans rfl; have hc3 := (blk_cell BC.out 3).trans rfl; have hc4 := (blk_cell BC.out 4).trans rfl; have hc5 := (blk_cell BC.out 5).trans rfl; have hc6 := (blk_cell BC.out 6).trans rfl; have hc7 := (blk_cell BC.out 7).trans rfl; have hc8 := (blk_cell BC.out 8).trans rfl; have hd0 := bc4_0 BR.out; have hd1 := bc4_1 BR.out; have hd2 := bc4_2 BR.out; have hd3 := bc4_3 BR.out) | (go_at_call 43; (with_reducible refine (command_named.calls a0_2 n _ _ E2.out).mono ?_); rintro e w3 ⟨rfl, hb⟩; have n1_ := Aside0.mk (blk_below BC.out hb); have n2_ := Aside0.mk (blk_below BR.out hb); have n3_ := Aside0.mk (HF.out.below hb); have n4_ := Aside0.mk (below_step HB.out hb); clear hc1 hc2 hc3 hc4 hc5 hc6 hc7 hc8 hd0 hd1 hd2 hd3; clear BC BR HF HB hb; have BC := n1_; have BR := n2_; have HF := n3_; have HB := n4_; clear n1_ n2_ n3_ n4_; have hc1 := (blk_cell BC.out 1).trans rfl; have hc2 := (blk_cell BC.out 2).trans rfl; have hc3 := (blk_cell BC.out 3).trans rfl; have hc4 := (blk_cell BC.out 4).trans rfl; have hc5 := (blk_cell BC.out 5).trans rfl; have hc6 := (blk_cell BC.out 6).trans rfl; have hc7 := (blk_cell BC.out 7).trans rfl; have hc8 := (blk_cell BC.out 8).trans rfl; have hd0 := bc4_0 BR.out; have hd1 := bc4_1 BR.out; have hd2 := bc4_2 BR.out; have hd3 := bc4_3 BR.out) | (go_at_call 78; refine (from1_calls _ _ _ _ _ _ _ HF.out _ H3.out).mono ?_; rintro e w3 ⟨rfl, hb⟩; have n1_ := Aside0.mk (blk_below BC.out hb); have n2_ := Aside0.mk (blk_below BR.out hb); have n3_ := Aside0.mk (HF.out.below hb); have n4_ := Aside0.mk (below_step HB.out hb); clear hc1 hc2 hc3 hc4 hc5 hc6 hc7 hc8 hd0 hd1 hd2 hd3; clear BC BR HF HB hb; have BC := n1_; have BR := n2_; have HF := n3_; have HB := n4_; clear n1_ n2_ n3_ n4_; have hc1 := (blk_cell BC.out 1).trans rfl; have hc2 := (blk_cell BC.out 2).trans rfl; have hc3 := (blk_cell BC.out 3).trans rfl; have hc4 := (blk_cell BC.out 4).trans rfl; have hc5 := (blk_cell BC.out 5).trans rfl; have hc6 := (blk_cell BC.out 6).trans rfl; have hc7 := (blk_cell BC.out 7).trans rfl; have hc8 := (blk_cell BC.out 8).trans rfl; have hd0 := bc4_0 BR.out; have hd1 := bc4_1 BR.out; have hd2 := bc4_2 BR.out; have hd3 := bc4_3 BR.out))
  go_ret
  exact ⟨rfl, HB.out⟩
 go_upto_region 4 with (first | (go_at_call 43; (with_reducible refine (command_named.calls a0_1 t _ _ E1.out).mono ?_); rintro e w3 ⟨rfl, hb⟩; have n1_ := Aside0.mk (blk_below BC.out hb); have n2_ := Aside0.mk (blk_below BR.out hb); have n3_ := Aside0.mk (HF.out.below hb); have n4_ := Aside0.mk (below_step HB.out hb); clear hc1 hc2 hc3 hc4 hc5 hc6 hc7 hc8 hd0 hd1 hd2 hd3; clear BC BR HF HB hb; have BC := n1_; have BR := n2_; have HF := n3_; have HB := n4_; clear n1_ n2_ n3_ n4_; have hc1 := (blk_cell BC.out 1).trans rfl; have hc2 := (blk_cell BC.out 2).trans rfl; have hc3 := (blk_cell BC.out 3).trans rfl; have hc4 := (blk_cell BC.out 4).trans rfl; have hc5 := (blk_cell BC.out 5).trans rfl; have hc6 := (blk_cell BC.out 6).trans rfl; have hc7 := (blk_cell BC.out 7).trans rfl; have hc8 := (blk_cell BC.out 8).trans rfl; have hd0 := bc4_0 BR.out; have hd1 := bc4_1 BR.out; have hd2 := bc4_2 BR.out; have hd3 := bc4_3 BR.out) | (go_at_call 43; (with_reducible refine (command_named.calls a0_2 n _ _ E2.out).mono ?_); rintro e w3 ⟨rfl, hb⟩; have n1_ := Aside0.mk (blk_below BC.out hb); have n2_ := Aside0.mk (blk_below BR.out hb); have n3_ := Aside0.mk (HF.out.below hb); have n4_ := Aside0.mk (below_step HB.out hb); clear hc1 hc2 hc3 hc4 hc5 hc6 hc7 hc8 hd0 hd1 hd2 hd3; clear BC BR HF HB hb; have BC := n1_; have BR := n2_; have HF := n3_; have HB := n4_; clear n1_ n2_ n3_ n4_; have hc1 := (blk_cell BC.out 1).trans rfl; have hc2 := (blk_cell BC.out 2).trans rfl; have hc3 := (blk_cell BC.out 3).trans rfl; have hc4 := (blk_cell BC.out 4).trans rfl; have hc5 := (blk_cell BC.out 5).trans rfl; have hc6 := (blk_cell BC.out 6).trans rfl; have hc7 := (blk_cell BC.out 7).trans rfl; have hc8 := (blk_cell BC.out 8).trans rfl; have hd0 := bc4_0 BR.out; have hd1 := bc4_1 BR.out; have hd2 := bc4_2 BR.out; have hd3 := bc4_3 BR.out) | (go_at_call 78; refine (from1_calls _ _ _ _ _ _ _ HF.out _ H3.out).mono ?_; rintro e w3 ⟨rfl, hb⟩; have n1_ := Aside0.mk (blk_below BC.out hb); have n2_ := Aside0.mk (blk_below BR.out hb); have n3_ := Aside0.mk (HF.out.below hb); have n4_ := Aside0.mk (below_step HB.out hb); clear hc1 hc2 hc3 hc4 hc5 hc6 hc7 hc8 hd0 hd1 hd2 hd3; clear BC BR HF HB hb; have BC := n1_; have BR := n2_; have HF := n3_; have HB := n4_; clear n1_ n2_ n3_ n4_; have hc1 := (blk_cell BC.out 1).trans rfl; have hc2 := (blk_cell BC.out 2).trans rfl; have hc3 := (blk_cell BC.out 3).trans rfl; have hc4 := (blk_cell BC.out 4).trans rfl; have hc5 := (blk_cell BC.out 5).trans rfl; have hc6 := (blk_cell BC.out 6).trans rfl; have hc7 := (blk_cell BC.out 7).trans rfl; have hc8 := (blk_cell BC.out 8).trans rfl; have hd0 := bc4_0 BR.out; have hd1 := bc4_1 BR.out; have hd2 := bc4_2 BR.out; have hd3 := bc4_3 BR.out))
 obtain ⟨m, hm⟩ : ∃ m, (if a0_3 < (if a0_8 < a0_7 then a0_8 else a0_7) then a0_3 else (if a0_8 < a0_7 then a0_8 else a0_7)) = m := ⟨_, rfl⟩
 have hmb : decide (m < 0) = !(decide (0 ≤ a0_7) && decide (0 ≤ a0_8) && decide (0 ≤ a0_3)) := by
  rw [← hm, Bool.eq_iff_iff]
  simp
  split <;> split <;> omega
 obtain ⟨M, hM⟩ : ∃ M, (if a0_8 < a0_3 then a0_3 else a0_8) = M := ⟨_, rfl⟩
 have hMb : decide (9007199254740991 < M) = !(decide (a0_8 ≤ 9007199254740991) && decide (a0_3 ≤ 9007199254740991)) := by
  rw [← hM, Bool.eq_iff_iff]
  simp
  split <;> omega
 obtain ⟨q1, hq1⟩ : ∃ q1, (decide (0 ≤ a0_7) && decide (0 ≤ a0_8) && decide (0 ≤ a0_3)) = q1 := ⟨_, rfl⟩
 obtain ⟨q3, hq3⟩ : ∃ q3, (decide (a0_8 ≤ 9007199254740991) && decide (a0_3 ≤ 9007199254740991)) = q3 := ⟨_, rfl⟩
 obtain ⟨q2, hq2⟩ : ∃ q2, decide (a0_7 < 7) = q2 := ⟨_, rfl⟩
 have h_ := HR.out
 rw [hq1, hq2, hq3] at h_
 rw [hq1] at hmb
 rw [hq3] at hMb
 clear HR H3 hq1 hq3
 have HR := Aside0.mk h_
 clear h_
 cases q1
 ·obtain rfl : r = false := by rw [← HR.out]; simp
  clear HR hq2 hMb hM M
  replace hmb : decide (m < 0) = true := hmb
  go_wp2
  go_ret
  exact ⟨rfl, HB.out⟩
 replace hmb : decide (m < 0) = false := hmb
 cases q2
 ·obtain rfl : r = false := by rw [← HR.out]; simp
  clear HR hMb hM M
  have hq : decide (7 ≤ a0_7) = true := decide_eq_true (by have := of_decide_eq_false hq2; omega)
  go_wp2
  go_ret
  exact ⟨rfl, HB.out⟩
 have hq : decide (7 ≤ a0_7) = false := decide_eq_false (by have := of_decide_eq_true hq2; omega)
 cases q3
 ·obtain rfl : r = false := by rw [← HR.out]; simp
  clear HR
  replace hMb : decide (9007199254740991 < M) = true := hMb
  go_wp2
  go_ret
  exact ⟨rfl, HB.out⟩
 replace hMb : decide (9007199254740991 < M) = false := hMb
 cases p
 ·go_upto_region 7 with (fail)
  clear hm hM hmb hMb hq hq2
  by_cases h0 : a0_3 = 0
  ·have h0b : (a0_3 == 0) = true := by rw [h0]; rfl
   have h0c : (a0_3 = 0) = True := eq_true h0
   have hz := HZ.out
   have z0 := eq_true hz
   have z1 : decide (a0_4.size + a0_5.size ≤ 9223372036854775807) = true := decide_eq_true hz
   have z2 : (9223372036854775807 < a0_4.size + a0_5.size) = False := eq_false (Nat.not_lt.2 hz)
   clear hz
   go_wp2
   go_ret
   refine ⟨congrArg (fun b : Bool => Ending.returned (.bool b)) (show (a0_4 ++ a0_5).toList.isEmpty = r from ?_), HB.out⟩
   rw [← HR.out, h0, isEmpty_append]
   simp
  ·obtain rfl : r = false := by rw [← HR.out]; simp [h0]
   have h0b : (a0_3 == 0) = false := beq_eq_false_iff_ne.mpr h0
   clear HR h0
   go_wp2
   go_ret
   exact ⟨rfl, HB.out⟩
 ·go_upto_region 8 with (fail)
  clear hm hM hmb hMb hq hq2
  by_cases k1 : a0_4.size ≤ 100
  ·have k1a : decide ((a0_4.size : Int) ≤ 100) = true := decide_eq_true (by omega)
   have k1b : decide (a0_4.size ≤ 100) = true := decide_eq_true k1
   clear k1
   go_wp2
   go_ret
   refine ⟨congrArg (fun b : Bool => Ending.returned (.bool b)) (show decide ((a0_5.size : Int) ≤ 1000) = r from ?_), HB.out⟩
   rw [← HR.out, k1b]
   simp
   omega
  ·have k1a : decide ((a0_4.size : Int) ≤ 100) = false := decide_eq_false (by omega)
   have k1b : decide (a0_4.size ≤ 100) = false := decide_eq_false k1
   obtain rfl : r = false := by rw [← HR.out]; simp [k1b]
   clear k1 HR
   go_wp2
   go_ret
   exact ⟨rfl, HB.out⟩
theorem command_Right.calls (a0_0 : Int) (a0_1 a0_2 : ByteArray) (a0_3 : Int) (a0_4 a0_5 : ByteArray) (a0_6 a0_7 a0_8 : Int) (r : Bool) (w : World) (h : command_Right.f a0_0 a0_1 a0_2 a0_3 a0_4 a0_5 a0_6 a0_7 a0_8 = some r) :
  Calls Tryd.prog 16 #[.agg #[.int .i64 a0_0, .string a0_1, .string a0_2, .int .i64 a0_3, .string a0_4, .string a0_5, .int .i64 a0_6, .int .i64 a0_7, .int .i64 a0_8]] w fun e w' => e = .returned (.bool r) ∧ Below w.heap.size w w' := by
 unfold command_Right.f at h
 by_cases hz : a0_4.size + a0_5.size ≤ 9223372036854775807
 case neg => rw [if_neg hz] at h; exact absurd h (by simp)
 rw [if_pos hz] at h
 cases hv : ruleV a0_0 with
 | none =>
  rw [hv] at h
  obtain rfl := Option.some.inj h
  exact right_none a0_0 a0_1 a0_2 a0_3 a0_4 a0_5 a0_6 a0_7 a0_8 w hv
 | some q =>
  obtain ⟨t, n, p, lo, hi⟩ := q
  rw [hv] at h
  obtain ⟨r1, e1, h⟩ := Option.bind_eq_some_iff.mp h
  obtain ⟨r2, e2, h⟩ := Option.bind_eq_some_iff.mp h
  exact right_some a0_0 a0_1 a0_2 a0_3 a0_4 a0_5 a0_6 a0_7 a0_8 w t n p r1 r2 lo hi r hz hv e1 e2 (Option.some.inj h)

/-! ### codec_put: function 53 -/
def codec_put.l0 : Nat → List Int → Int → Int → Option (List Int)
 | 0, _, _, _ => none
 | k + 1, x0, x1, x7 => if x7 ≥ 0 then (if 0 ≤ x7 then (if x0.length < 140737488355328 then (codec_put.l0 k (x0 ++ [(shr .u64 x1 x7) % 256]) x1 (wrap64 (x7 - 8))) else (none)) else (none)) else (some x0)
def codec_put.f (k : Nat) (l0 : List Int) (a1 : Int) (a2 : Int) : Option (List Int) := codec_put.l0 k l0 a1 (wrap64 (8 * (wrap64 (a2 - 1))))
set_option maxHeartbeats 8000000 in
set_option maxRecDepth 100000 in
theorem codec_put.calls (k : Nat) (P0_ : Nat → Prop) (u9000_ : Value) (l0 : List Int) (a1 : Int) (a2 : Int) (r : List Int) (w0 w : World) (hB : Below w0.heap.size w0 w) (ho0 : Kd.R (Kd.int .u8) 5 w w0.heap.size P0_ u9000_ l0) (h : codec_put.f k l0 a1 a2 = some r) :
  Calls Tryd.prog 53 #[u9000_, .int .u64 a1, .int .i64 a2] w fun e w' => ∃ v0_ : Value, e = .returned (v0_) ∧ Kd.R (Kd.int .u8) 5 w' w0.heap.size (fun k_ => (P0_ k_ ∨ w.heap.size ≤ k_)) v0_ r ∧ Below w0.heap.size w0 w' ∧ Kept w w' (fun k_ => P0_ k_) := by
 have HO0 := Aside0.mk (show Kd.R (Kd.int .u8) 5 w w0.heap.size (fun k_ => (P0_ k_ ∨ w.heap.size ≤ k_)) u9000_ l0 from Kd.R_mono ho0 (fun k_ hk => (.inl hk)))
 have HK := Aside0.mk (Kept.refl w (fun k_ => P0_ k_))
 have HW0 := Aside0.mk hB.size
 have HB := Aside0.mk hB
 clear hB
 have H : (codec_put.l0 k l0 a1 (wrap64 (8 * (wrap64 (a2 - 1))))) = some r := h
 clear h
 have H' := Aside0.mk H
 clear H
 go_enter Tryd.func53, Tryd.ntmps53
 go_wp2
 go_loopg [0, 7] k (fun kq v0 v7 w' => ∃ (x0_1 : List Int) (x7_1 : Int), v7 = .int .i64 x7_1 ∧ Aside0 (codec_put.l0 kq x0_1 a1 x7_1 = some r) ∧ Aside0 (kq ≤ k) ∧ Aside0 (Kd.R (Kd.int .u8) 5 w' w0.heap.size (fun k_ => (P0_ k_ ∨ w.heap.size ≤ k_)) v0 x0_1) ∧ Aside0 (Kept w w' (fun k_ => P0_ k_)) ∧ Aside0 (Below w0.heap.size w0 w'))
 case atStart => exact ⟨(l0), (wrap64 (8 * (wrap64 (a2 - 1)))), (by first | rfl | (simp; done) | (simp [*]; done)), H', ⟨Nat.le_refl _⟩, ⟨r_ HO0.out⟩, ⟨by repeat (first | (with_reducible first | exact HK.out | apply Kept.alloc | apply Kept.drewN | apply Kept.drew) | exact HK.out)⟩, ⟨bw⟩⟩
 case round =>
  clear H'
  try clear p2
  obtain ⟨x0_1, x7_1, rfl, HA, HK1, aa, HK, HB⟩ := hrel
  cases gk with
  | zero => exact absurd HA.out (by simp [codec_put.l0])
  | succ k1 =>
   have H := HA.out
   clear HA
   simp only [codec_put.l0] at H
   by_cases c4 : x7_1 ≥ 0; rotate_left
   ·rw [if_neg c4] at H
    have c4b0 : decide (0 ≤ x7_1) = false := decide_eq_false c4
    clear c4
    obtain rfl := Option.some.inj H
    go_wp2
    go_ret
    exact ⟨_, er, by (with_reducible repeat (first | apply Kd.R_alloc | apply Kd.R_drewN | apply Kd.R_drew)); exact aa.out, bw, by repeat (first | (with_reducible first | exact HK.out | apply Kept.alloc | apply Kept.drewN | apply Kept.drew) | exact HK.out)⟩
   rw [if_pos c4] at H
   have c4b0 : decide (0 ≤ x7_1) = true := decide_eq_true c4
   clear c4
   obtain ⟨c5, H⟩ := its H
   have c5b0 := eq_true c5
   have c5b1 : decide (0 ≤ x7_1) = true := decide_eq_true c5
   clear c5
   obtain ⟨ji6, hji6⟩ : ∃ j_ : Int, (shr .u64 a1 x7_1) = j_ := ⟨_, rfl⟩
   replace H : (if x0_1.length < 140737488355328 then (codec_put.l0 k1 (x0_1 ++ [(ji6) % 256]) a1 (wrap64 (x7_1 - 8))) else (none)) = some r := by first | (rw [hji6] at H; exact H) | (simp only [hji6] at H ⊢; exact H)
   have hji6_ : (a1 / 2 ^ min x7_1.toNat 64) = ji6 := hji6
   have hji6z : x7_1 ≤ 64 → (a1 / 2 ^ x7_1.toNat) = ji6 := shr_small hji6
   obtain ⟨c7, H⟩ := its H
   have LMc7 := Aside0.mk c7
   clear c7
   obtain ⟨y102, hy102⟩ : ∃ y_ : List Int, y_ = (x0_1 ++ [(ji6) % 256]) := ⟨_, rfl⟩
   replace H : (codec_put.l0 k1 y102 a1 (wrap64 (x7_1 - 8))) = some r := by first | (rw [hy102]; with_reducible exact H) | (have H2_ := (Option.bind_some _ _).symm.trans H; rw [hy102]; with_reducible exact H2_) | (have H2_ := (Option.bind_some _ _).symm.trans H; with_reducible exact H2_) | with_reducible exact H | (rw [hy102]; exact H) | exact H
   have Ny102 := Aside0.mk hy102
   clear hy102
   have H' := Aside0.mk H
   clear H
   go_wp2_with (first | ((with_reducible refine gate_builtin (b := .append) (xs := #[.tmp 15, .tmp 20]) rfl ?_); at_builtin; refine Kd.R_append (Kd.int .u8) (w0 := w0) w0.heap.size rfl (.tmp 15) (.tmp 20) 50 5 (.int .u8 0) 1 rfl Tryd.underlying50 info5 rfl (by decide) (by omega) u0 x0_1 ((ji6) % 256) [.int .u8 ((ji6) % 256)] (fun k_ => (P0_ k_ ∨ w.heap.size ≤ k_)) (fun _ => False) rfl rfl ?aP (fun _ hk => hk.elim) ?aF ?aO ?aB ?aS ?aL ?_; (case aP => exact rfl); (case aB => exact bw); (case aF => exact (fun k_ hk => (.inr (Nat.le_trans (by first | exact HK.out.1 | exact (show Kept w _ (fun k_ => P0_ k_) from by repeat (first | (with_reducible first | exact HK.out | apply Kept.alloc | apply Kept.drewN | apply Kept.drew) | exact HK.out)).1) hk)))); (case aO => exact (r_ aa.out)); (case aS => exact (below_size bw)); (case aL => have := LMc7.out; omega); intro v103 w8 ho hb hg hat; rw [← Ny102.out] at ho; replace HB := Aside0.mk (hb); replace HK := Aside0.mk (Kept.of_grown (S := (fun k_ => P0_ k_)) hg (by repeat (first | (with_reducible first | exact HK.out | apply Kept.alloc | apply Kept.drewN | apply Kept.drew) | exact HK.out)) (fun k_ e_ => (aa.out.1 k_ e_))); have HO104 := Aside0.mk (ho); clear aa; clear ho hb hg hat))
   go_roundg k1
   case measure => have := HK1.out; omega
   case rel => (try rw [hji6]); exact ⟨(y102), (wrap64 (x7_1 - 8)), (by first | rfl | (simp; done) | (simp [*]; done)), H', ⟨by have := HK1.out; omega⟩, ⟨r_ HO104.out⟩, ⟨by repeat (first | (with_reducible first | exact HK.out | apply Kept.alloc | apply Kept.drewN | apply Kept.drew) | exact HK.out)⟩, ⟨bw⟩⟩

end Go.Proofs.YtpgiagdpepkooaaDoor.P
