import Derived.Test.YtnmcknfkmelnbaaDoorWalkA
import Derived.Test.YtnmcknfkmelnbaaDoorPx6
import Derived.Outline
import Derived.Laws.BitsAllLaws
import Derived.WalkSpells
import Derived.StillTailTactics
namespace Go.Proofs.YtnmcknfkmelnbaaDoor.P
open Go.RowKit Go.Proofs.YtnmcknfkmelnbaaDoorW.PrintWords Go.Proofs.YtnmcknfkmelnbaaDoorW.PrintLast Go.Proofs.YtnmcknfkmelnbaaDoorW.PrintMore
attribute [local go_sem] max2_int min2_int max_two min_two max_three min_three max_four min_four
set_option linter.unusedVariables false
set_option linter.unusedSimpArgs false
attribute [local go_sem high] eqA23
set_option maxHeartbeats 4000000 in
set_option maxRecDepth 100000 in
theorem promise_c1 (g : Nat) (p : PrS) (node : Int) (aa ab ac ad : Int) (as_ : ByteArray) (w : World) (HP : Aside0 (PrIs w g p)) (HT1 : Aside0 (TabOk w)) (ke : Nat) (re : ByteArray) (er : Int)
    (HE : Aside0 (acceptor_Encode.f ke aa ab ac ad as_ = some (re, er))) (c0 : (p.st != 0) = true) :
    Calls Tryd.prog 11 #[.pointer (some ⟨g, 0, none⟩), .int .i64 node, .agg #[.int .i64 aa, .int .i64 ab, .int .i64 ac, .int .i64 ad, .string as_]] w fun e w' => e = .returned (.bool false) ∧ PrIs w' g p ∧ Only w w' (· = g) := by
    have HB1 := Aside0.mk (below_alloc (Below.refl w.heap.size w) (.cells #[.int .i64 aa, .int .i64 ab, .int .i64 ac, .int .i64 ad, .string as_] 34))
    go_enter Tryd.func11, Tryd.ntmps11
    go_wp2_with (go_at_call 27; refine (acceptor_Encode.calls ke aa ab ac ad as_ re er _ (HT1.out.alloc _) HE.out).mono ?_)
    rintro e W1 ⟨rfl, hb⟩
    have HBW := Aside0.mk (Below.trans HB1.out (hb.mono (by simp)))
    have HP1 := Aside0.mk (HP.out.below HBW.out)
    have HX := Aside0.mk (blk_below (heap_alloc_new w (.cells #[.int .i64 aa, .int .i64 ab, .int .i64 ac, .int .i64 ad, .string as_] 34)) hb)
    have HWZ := Aside0.mk (Nat.ne_of_lt HP.out.lt)
    clear hb
    have hc28 := HP1.out.high.2.2.2.2.2.1
    have HND := Aside0.mk (fun n => node_calls g p node (W1.drewN n) (HP1.out.below (pw_below_drewN (Below.refl _ _) n)))
    skip
    go_wp2
    go_quiet (first | (go_at_call 28; exact Calls.quiet_of_same (HND.out _)) | fail)
    go_wp2
    go_ret
    exact ⟨rfl, HP1.out.below (pw_below_drewN (Below.refl _ _) _), Only.of_below (pw_below_drewN HBW.out _)⟩
set_option maxHeartbeats 4000000 in
set_option maxRecDepth 100000 in
theorem promise_c2 (g : Nat) (p : PrS) (node : Int) (aa ab ac ad : Int) (as_ : ByteArray) (w : World) (HP : Aside0 (PrIs w g p)) (HT1 : Aside0 (TabOk w)) (ke : Nat) (re : ByteArray) (er : Int)
    (HE : Aside0 (acceptor_Encode.f ke aa ab ac ad as_ = some (re, er))) (c0 : (p.st != 0) = false) (HN : bhas p.nodes node = false) :
    Calls Tryd.prog 11 #[.pointer (some ⟨g, 0, none⟩), .int .i64 node, .agg #[.int .i64 aa, .int .i64 ab, .int .i64 ac, .int .i64 ad, .string as_]] w fun e w' => e = .returned (.bool false) ∧ PrIs w' g p ∧ Only w w' (· = g) := by
    have HB1 := Aside0.mk (below_alloc (Below.refl w.heap.size w) (.cells #[.int .i64 aa, .int .i64 ab, .int .i64 ac, .int .i64 ad, .string as_] 34))
    go_enter Tryd.func11, Tryd.ntmps11
    go_wp2_with (go_at_call 27; refine (acceptor_Encode.calls ke aa ab ac ad as_ re er _ (HT1.out.alloc _) HE.out).mono ?_)
    rintro e W1 ⟨rfl, hb⟩
    have HBW := Aside0.mk (Below.trans HB1.out (hb.mono (by simp)))
    have HP1 := Aside0.mk (HP.out.below HBW.out)
    have HX := Aside0.mk (blk_below (heap_alloc_new w (.cells #[.int .i64 aa, .int .i64 ab, .int .i64 ac, .int .i64 ad, .string as_] 34)) hb)
    have HWZ := Aside0.mk (Nat.ne_of_lt HP.out.lt)
    clear hb
    have hc28 := HP1.out.high.2.2.2.2.2.1
    have HND := Aside0.mk (fun n => node_calls g p node (W1.drewN n) (HP1.out.below (pw_below_drewN (Below.refl _ _) n)))
    simp only [HN] at HND
    go_wp2
    go_quiet (first | (go_at_call 28; exact Calls.quiet_of_same (HND.out _)) | fail)
    go_wp2
    go_ret
    exact ⟨rfl, HP1.out.below (pw_below_drewN (Below.refl _ _) _), Only.of_below (pw_below_drewN HBW.out _)⟩
set_option maxHeartbeats 4000000 in
set_option maxRecDepth 100000 in
theorem promise_c3 (g : Nat) (p : PrS) (node : Int) (aa ab ac ad : Int) (as_ : ByteArray) (w : World) (HP : Aside0 (PrIs w g p)) (HT1 : Aside0 (TabOk w)) (ke : Nat) (re : ByteArray) (er : Int)
    (HE : Aside0 (acceptor_Encode.f ke aa ab ac ad as_ = some (re, er))) (c0 : (p.st != 0) = false) (HN : bhas p.nodes node = true) (k0 : 0 ≤ node) (k7 : node < 7) (HM : p.prom.getD node.toNat false = true) :
    Calls Tryd.prog 11 #[.pointer (some ⟨g, 0, none⟩), .int .i64 node, .agg #[.int .i64 aa, .int .i64 ab, .int .i64 ac, .int .i64 ad, .string as_]] w fun e w' => e = .returned (.bool false) ∧ PrIs w' g p ∧ Only w w' (· = g) := by
    have HB1 := Aside0.mk (below_alloc (Below.refl w.heap.size w) (.cells #[.int .i64 aa, .int .i64 ab, .int .i64 ac, .int .i64 ad, .string as_] 34))
    go_enter Tryd.func11, Tryd.ntmps11
    go_wp2_with (go_at_call 27; refine (acceptor_Encode.calls ke aa ab ac ad as_ re er _ (HT1.out.alloc _) HE.out).mono ?_)
    rintro e W1 ⟨rfl, hb⟩
    have HBW := Aside0.mk (Below.trans HB1.out (hb.mono (by simp)))
    have HP1 := Aside0.mk (HP.out.below HBW.out)
    have HX := Aside0.mk (blk_below (heap_alloc_new w (.cells #[.int .i64 aa, .int .i64 ab, .int .i64 ac, .int .i64 ad, .string as_] 34)) hb)
    have HWZ := Aside0.mk (Nat.ne_of_lt HP.out.lt)
    clear hb
    have hc28 := HP1.out.high.2.2.2.2.2.1
    have HND := Aside0.mk (fun n => node_calls g p node (W1.drewN n) (HP1.out.below (pw_below_drewN (Below.refl _ _) n)))
    simp only [HN] at HND
    have hcp := HP1.out.prom node.toNat (by omega)
    rw [HM] at hcp
    go_wp2
    go_quiet (first | (go_at_call 28; exact Calls.quiet_of_same (HND.out _)) | fail)
    go_wp2
    go_ret
    exact ⟨rfl, HP1.out.below (pw_below_drewN (Below.refl _ _) _), Only.of_below (pw_below_drewN HBW.out _)⟩
set_option maxHeartbeats 4000000 in
set_option maxRecDepth 100000 in
theorem promise_c4 (g : Nat) (p : PrS) (node : Int) (aa ab ac ad : Int) (as_ : ByteArray) (w : World) (HP : Aside0 (PrIs w g p)) (HT1 : Aside0 (TabOk w)) (ke : Nat) (re : ByteArray) (er : Int)
    (HE : Aside0 (acceptor_Encode.f ke aa ab ac ad as_ = some (re, er))) (c0 : (p.st != 0) = false) (HN : bhas p.nodes node = true) (k0 : 0 ≤ node) (k7 : node < 7) (HM : p.prom.getD node.toNat false = false) (c4 : (er != 0) = true) :
    Calls Tryd.prog 11 #[.pointer (some ⟨g, 0, none⟩), .int .i64 node, .agg #[.int .i64 aa, .int .i64 ab, .int .i64 ac, .int .i64 ad, .string as_]] w fun e w' => e = .returned (.bool false) ∧ PrIs w' g p ∧ Only w w' (· = g) := by
    have HB1 := Aside0.mk (below_alloc (Below.refl w.heap.size w) (.cells #[.int .i64 aa, .int .i64 ab, .int .i64 ac, .int .i64 ad, .string as_] 34))
    go_enter Tryd.func11, Tryd.ntmps11
    go_wp2_with (go_at_call 27; refine (acceptor_Encode.calls ke aa ab ac ad as_ re er _ (HT1.out.alloc _) HE.out).mono ?_)
    rintro e W1 ⟨rfl, hb⟩
    have HBW := Aside0.mk (Below.trans HB1.out (hb.mono (by simp)))
    have HP1 := Aside0.mk (HP.out.below HBW.out)
    have HX := Aside0.mk (blk_below (heap_alloc_new w (.cells #[.int .i64 aa, .int .i64 ab, .int .i64 ac, .int .i64 ad, .string as_] 34)) hb)
    have HWZ := Aside0.mk (Nat.ne_of_lt HP.out.lt)
    clear hb
    have hc28 := HP1.out.high.2.2.2.2.2.1
    have HND := Aside0.mk (fun n => node_calls g p node (W1.drewN n) (HP1.out.below (pw_below_drewN (Below.refl _ _) n)))
    simp only [HN] at HND
    have hcp := HP1.out.prom node.toNat (by omega)
    rw [HM] at hcp
    go_wp2
    go_quiet (first | (go_at_call 28; exact Calls.quiet_of_same (HND.out _)) | fail)
    go_wp2
    go_ret
    exact ⟨rfl, HP1.out.below (pw_below_drewN (Below.refl _ _) _), Only.of_below (pw_below_drewN HBW.out _)⟩
set_option maxHeartbeats 4000000 in
set_option maxRecDepth 100000 in
theorem promise_c5 (g : Nat) (p : PrS) (node : Int) (aa ab ac ad : Int) (as_ : ByteArray) (w : World) (HP : Aside0 (PrIs w g p)) (HT1 : Aside0 (TabOk w)) (ke : Nat) (re : ByteArray) (er : Int)
    (HE : Aside0 (acceptor_Encode.f ke aa ab ac ad as_ = some (re, er))) (c0 : (p.st != 0) = false) (HN : bhas p.nodes node = true) (k0 : 0 ≤ node) (k7 : node < 7) (HM : p.prom.getD node.toNat false = false) (c4 : (er != 0) = false) (c5 : (!(aa == p.r) || (!(ab == p.n))) = true) :
    Calls Tryd.prog 11 #[.pointer (some ⟨g, 0, none⟩), .int .i64 node, .agg #[.int .i64 aa, .int .i64 ab, .int .i64 ac, .int .i64 ad, .string as_]] w fun e w' => e = .returned (.bool false) ∧ PrIs w' g p ∧ Only w w' (· = g) := by
    have HB1 := Aside0.mk (below_alloc (Below.refl w.heap.size w) (.cells #[.int .i64 aa, .int .i64 ab, .int .i64 ac, .int .i64 ad, .string as_] 34))
    go_enter Tryd.func11, Tryd.ntmps11
    go_wp2_with (go_at_call 27; refine (acceptor_Encode.calls ke aa ab ac ad as_ re er _ (HT1.out.alloc _) HE.out).mono ?_)
    rintro e W1 ⟨rfl, hb⟩
    have HBW := Aside0.mk (Below.trans HB1.out (hb.mono (by simp)))
    have HP1 := Aside0.mk (HP.out.below HBW.out)
    have HX := Aside0.mk (blk_below (heap_alloc_new w (.cells #[.int .i64 aa, .int .i64 ab, .int .i64 ac, .int .i64 ad, .string as_] 34)) hb)
    have HWZ := Aside0.mk (Nat.ne_of_lt HP.out.lt)
    clear hb
    have hc28 := HP1.out.high.2.2.2.2.2.1
    have HND := Aside0.mk (fun n => node_calls g p node (W1.drewN n) (HP1.out.below (pw_below_drewN (Below.refl _ _) n)))
    simp only [HN] at HND
    have hcp := HP1.out.prom node.toNat (by omega)
    rw [HM] at hcp
    have hl0 := HP1.out.low.1
    have hl1 := HP1.out.low.2
    obtain ⟨hx0, hx1, hx2, hx3, hx4, _, _, _, _, _⟩ := bx5 HX.out
    go_wp2
    go_quiet (first | (go_at_call 28; exact Calls.quiet_of_same (HND.out _)) | fail)
    go_wp2
    go_ret
    exact ⟨rfl, HP1.out.below (pw_below_drewN (Below.refl _ _) _), Only.of_below (pw_below_drewN HBW.out _)⟩
set_option maxHeartbeats 4000000 in
set_option maxRecDepth 100000 in
theorem promise_c6 (g : Nat) (p : PrS) (node : Int) (aa ab ac ad : Int) (as_ : ByteArray) (w : World) (HP : Aside0 (PrIs w g p)) (HT1 : Aside0 (TabOk w)) (ke : Nat) (re : ByteArray) (er : Int)
    (HE : Aside0 (acceptor_Encode.f ke aa ab ac ad as_ = some (re, er))) (c0 : (p.st != 0) = false) (HN : bhas p.nodes node = true) (k0 : 0 ≤ node) (k7 : node < 7) (HM : p.prom.getD node.toNat false = false) (c4 : (er != 0) = false) (c5 : (!(aa == p.r) || (!(ab == p.n))) = false) (HL : Aside0 (acceptor_Less.f p.best.c p.best.d ac ad = some false)) :
    Calls Tryd.prog 11 #[.pointer (some ⟨g, 0, none⟩), .int .i64 node, .agg #[.int .i64 aa, .int .i64 ab, .int .i64 ac, .int .i64 ad, .string as_]] w fun e w' => e = .returned (.bool true) ∧ PrIs w' g { p with prom := p.prom.set node.toNat true } ∧ Only w w' (· = g) := by
    have HB1 := Aside0.mk (below_alloc (Below.refl w.heap.size w) (.cells #[.int .i64 aa, .int .i64 ab, .int .i64 ac, .int .i64 ad, .string as_] 34))
    go_enter Tryd.func11, Tryd.ntmps11
    go_wp2_with (go_at_call 27; refine (acceptor_Encode.calls ke aa ab ac ad as_ re er _ (HT1.out.alloc _) HE.out).mono ?_)
    rintro e W1 ⟨rfl, hb⟩
    have HBW := Aside0.mk (Below.trans HB1.out (hb.mono (by simp)))
    have HP1 := Aside0.mk (HP.out.below HBW.out)
    have HX := Aside0.mk (blk_below (heap_alloc_new w (.cells #[.int .i64 aa, .int .i64 ab, .int .i64 ac, .int .i64 ad, .string as_] 34)) hb)
    have HWZ := Aside0.mk (Nat.ne_of_lt HP.out.lt)
    clear hb
    have hc28 := HP1.out.high.2.2.2.2.2.1
    have HND := Aside0.mk (fun n => node_calls g p node (W1.drewN n) (HP1.out.below (pw_below_drewN (Below.refl _ _) n)))
    simp only [HN] at HND
    have hcp := HP1.out.prom node.toNat (by omega)
    rw [HM] at hcp
    have hl0 := HP1.out.low.1
    have hl1 := HP1.out.low.2
    obtain ⟨hx0, hx1, hx2, hx3, hx4, _, _, _, _, _⟩ := bx5 HX.out
    have hfz := HP1.out.frozen (9 + node.toNat)
    go_wp2
    go_quiet (first | (go_at_call 28; exact Calls.quiet_of_same (HND.out _)) | fail)
    go_wp2
    have HP2 := Aside0.mk ((HP1.out.below (pw_below_drewN (Below.refl _ W1) nq)).set_prom node.toNat (by omega) true)
    have HK2 := Aside0.mk ((Only.of_below (S := (· = g)) (pw_below_drewN HBW.out nq)).set_ (9 + node.toNat) (.bool true))
    have HX2 := Aside0.mk (blk_far (g := w.heap.size) (p := ⟨g, 9 + node.toNat, none⟩) (blk_drewN HX.out nq) (Ne.symm HWZ.out) (.bool true))
    generalize (W1.drewN nq).setCell ⟨g, 9 + node.toNat, none⟩ (.bool true) = W2 at HP2 HK2 HX2 ⊢
    clear hcp hl0 hl1 hx0 hx1 hx2 hx3 hx4 hfz hc28
    have hb2 := HP2.out.high.2.2.1
    have hb3 := HP2.out.high.2.2.2.1
    obtain ⟨hx0, hx1, hx2, hx3, hx4, _, _, _, _, _⟩ := bx5 HX2.out
    dsimp only at hb2 hb3
    go_still_tail 7, (by kernel_rfl)
    change wpList _ _ _ _ _ W2.drew
    go_wp2_with (go_at_call 29; refine (acceptor_Less.calls p.best.c p.best.d ac ad _ _ HL.out).mono ?_)
    rintro e W3 ⟨rfl, hb⟩
    have HP3 := Aside0.mk ((HP2.out.below (below_drew (Below.refl _ W2))).below hb)
    have HK3 := Aside0.mk (Only.trans HK2.out (Only.of_below (Below.trans (below_drew (Below.refl W2.heap.size W2)) hb)))
    have HX3 := Aside0.mk (blk_below (blk_drew HX2.out) hb)
    clear hb hb2 hb3 hx0 hx1 hx2 hx3 hx4
    go_wp2
    go_ret
    exact ⟨rfl, HP3.out, HK3.out⟩
set_option maxHeartbeats 4000000 in
set_option maxRecDepth 100000 in
theorem promise_c7 (g : Nat) (p : PrS) (node : Int) (aa ab ac ad : Int) (as_ : ByteArray) (w : World) (HP : Aside0 (PrIs w g p)) (HT1 : Aside0 (TabOk w)) (ke : Nat) (re : ByteArray) (er : Int)
    (HE : Aside0 (acceptor_Encode.f ke aa ab ac ad as_ = some (re, er))) (c0 : (p.st != 0) = false) (HN : bhas p.nodes node = true) (k0 : 0 ≤ node) (k7 : node < 7) (HM : p.prom.getD node.toNat false = false) (c4 : (er != 0) = false) (c5 : (!(aa == p.r) || (!(ab == p.n))) = false) (HL : Aside0 (acceptor_Less.f p.best.c p.best.d ac ad = some true)) :
    Calls Tryd.prog 11 #[.pointer (some ⟨g, 0, none⟩), .int .i64 node, .agg #[.int .i64 aa, .int .i64 ab, .int .i64 ac, .int .i64 ad, .string as_]] w fun e w' => e = .returned (.bool true) ∧ PrIs w' g { p with prom := p.prom.set node.toNat true, best := ⟨aa, ab, ac, ad, as_⟩ } ∧ Only w w' (· = g) := by
    have HB1 := Aside0.mk (below_alloc (Below.refl w.heap.size w) (.cells #[.int .i64 aa, .int .i64 ab, .int .i64 ac, .int .i64 ad, .string as_] 34))
    go_enter Tryd.func11, Tryd.ntmps11
    go_wp2_with (go_at_call 27; refine (acceptor_Encode.calls ke aa ab ac ad as_ re er _ (HT1.out.alloc _) HE.out).mono ?_)
    rintro e W1 ⟨rfl, hb⟩
    have HBW := Aside0.mk (Below.trans HB1.out (hb.mono (by simp)))
    have HP1 := Aside0.mk (HP.out.below HBW.out)
    have HX := Aside0.mk (blk_below (heap_alloc_new w (.cells #[.int .i64 aa, .int .i64 ab, .int .i64 ac, .int .i64 ad, .string as_] 34)) hb)
    have HWZ := Aside0.mk (Nat.ne_of_lt HP.out.lt)
    clear hb
    have hc28 := HP1.out.high.2.2.2.2.2.1
    have HND := Aside0.mk (fun n => node_calls g p node (W1.drewN n) (HP1.out.below (pw_below_drewN (Below.refl _ _) n)))
    simp only [HN] at HND
    have hcp := HP1.out.prom node.toNat (by omega)
    rw [HM] at hcp
    have hl0 := HP1.out.low.1
    have hl1 := HP1.out.low.2
    obtain ⟨hx0, hx1, hx2, hx3, hx4, _, _, _, _, _⟩ := bx5 HX.out
    have hfz := HP1.out.frozen (9 + node.toNat)
    go_wp2
    go_quiet (first | (go_at_call 28; exact Calls.quiet_of_same (HND.out _)) | fail)
    go_wp2
    have HP2 := Aside0.mk ((HP1.out.below (pw_below_drewN (Below.refl _ W1) nq)).set_prom node.toNat (by omega) true)
    have HK2 := Aside0.mk ((Only.of_below (S := (· = g)) (pw_below_drewN HBW.out nq)).set_ (9 + node.toNat) (.bool true))
    have HX2 := Aside0.mk (blk_far (g := w.heap.size) (p := ⟨g, 9 + node.toNat, none⟩) (blk_drewN HX.out nq) (Ne.symm HWZ.out) (.bool true))
    generalize (W1.drewN nq).setCell ⟨g, 9 + node.toNat, none⟩ (.bool true) = W2 at HP2 HK2 HX2 ⊢
    clear hcp hl0 hl1 hx0 hx1 hx2 hx3 hx4 hfz hc28
    have hb2 := HP2.out.high.2.2.1
    have hb3 := HP2.out.high.2.2.2.1
    obtain ⟨hx0, hx1, hx2, hx3, hx4, _, _, _, _, _⟩ := bx5 HX2.out
    dsimp only at hb2 hb3
    go_still_tail 7, (by kernel_rfl)
    change wpList _ _ _ _ _ W2.drew
    go_wp2_with (go_at_call 29; refine (acceptor_Less.calls p.best.c p.best.d ac ad _ _ HL.out).mono ?_)
    rintro e W3 ⟨rfl, hb⟩
    have HP3 := Aside0.mk ((HP2.out.below (below_drew (Below.refl _ W2))).below hb)
    have HK3 := Aside0.mk (Only.trans HK2.out (Only.of_below (Below.trans (below_drew (Below.refl W2.heap.size W2)) hb)))
    have HX3 := Aside0.mk (blk_below (blk_drew HX2.out) hb)
    clear hb hb2 hb3 hx0 hx1 hx2 hx3 hx4
    obtain ⟨hx0, hx1, hx2, hx3, hx4, _, _, _, _, _⟩ := bx5 HX3.out
    have hf0 := HP3.out.frozen 23
    have hf1 := HP3.out.frozen 24
    have hf2 := HP3.out.frozen 25
    have hf3 := HP3.out.frozen 26
    have hf4 := HP3.out.frozen 27
    obtain ⟨hc0, hc1, hc2, hc3, hc4, _⟩ := HP3.out.high
    go_wp2
    go_ret
    exact ⟨rfl, HP3.out.set_best ⟨aa, ab, ac, ad, as_⟩, ((((HK3.out.set_ _ _).set_ _ _).set_ _ _).set_ _ _).set_ _ _⟩
/-- What Promise answers, and leaves. -/
theorem promise_calls (g : Nat) (p : PrS) (node : Int) (a : AcS) (w : World) (h : PrIs w g p) (HT_ : TabOk w) (ke : Nat) (re : ByteArray) (HE : acceptor_Encode.f ke a.a a.b a.c a.d a.s = some (re, if AccP a.a a.b a.c a.d a.s then 0 else 1)) :
    Calls Tryd.prog 11 #[.pointer (some ⟨g, 0, none⟩), .int .i64 node, .agg #[.int .i64 a.a, .int .i64 a.b, .int .i64 a.c, .int .i64 a.d, .string a.s]] w fun e w' => e = .returned (.bool (p.promise node a).2) ∧ PrIs w' g (p.promise node a).1 ∧ Only w w' (· = g) := by
  obtain ⟨aa, ab, ac, ad, as_⟩ := a
  dsimp only at HE ⊢
  have HP := Aside0.mk h
  have HT := Aside0.mk HT_
  have F : ∀ {b}, b = p.promise node ⟨aa, ab, ac, ad, as_⟩ → (Calls Tryd.prog 11 #[.pointer (some ⟨g, 0, none⟩), .int .i64 node, .agg #[.int .i64 aa, .int .i64 ab, .int .i64 ac, .int .i64 ad, .string as_]] w fun e w' => e = .returned (.bool b.2) ∧ PrIs w' g b.1 ∧ Only w w' (· = g)) → Calls Tryd.prog 11 #[.pointer (some ⟨g, 0, none⟩), .int .i64 node, .agg #[.int .i64 aa, .int .i64 ab, .int .i64 ac, .int .i64 ad, .string as_]] w fun e w' => e = .returned (.bool (p.promise node ⟨aa, ab, ac, ad, as_⟩).2) ∧ PrIs w' g (p.promise node ⟨aa, ab, ac, ad, as_⟩).1 ∧ Only w w' (· = g) := by
    rintro b rfl hh
    exact hh
  by_cases c0 : p.st = 0
  case neg => exact F (b := (p, false)) (if_neg (fun hh => c0 hh.1)).symm (promise_c1 g p node aa ab ac ad as_ w HP HT ke re _ ⟨HE⟩ (bne_iff_ne.mpr c0))
  have c0b : (p.st != 0) = false := bne_eq_false_iff_eq.mpr c0
  by_cases c1 : bhas p.nodes node = true
  case neg => exact F (b := (p, false)) (if_neg (fun hh => c1 hh.2.1)).symm (promise_c2 g p node aa ab ac ad as_ w HP HT ke re _ ⟨HE⟩ c0b (by simpa using c1))
  have k : 0 ≤ node ∧ node < 7 := by
    unfold bhas at c1
    simp only [Bool.and_eq_true, decide_eq_true_eq] at c1
    exact c1.1
  by_cases c2 : p.prom.getD node.toNat false = false
  case neg => exact F (b := (p, false)) (if_neg (fun hh => c2 hh.2.2.1)).symm (promise_c3 g p node aa ab ac ad as_ w HP HT ke re _ ⟨HE⟩ c0b c1 k.1 k.2 (by simpa using c2))
  by_cases c3 : AccP aa ab ac ad as_
  case neg => exact F (b := (p, false)) (if_neg (fun hh => c3 hh.2.2.2.1)).symm (promise_c4 g p node aa ab ac ad as_ w HP HT ke re _ ⟨HE⟩ c0b c1 k.1 k.2 c2 (by rw [if_neg c3]; rfl))
  have ce : ((if AccP aa ab ac ad as_ then (0 : Int) else 1) != 0) = false := by rw [if_pos c3]; rfl
  by_cases c4 : aa = p.r ∧ ab = p.n
  case neg => exact F (b := (p, false)) (if_neg (fun hh => c4 hh.2.2.2.2)).symm (promise_c5 g p node aa ab ac ad as_ w HP HT ke re _ ⟨HE⟩ c0b c1 k.1 k.2 c2 ce (by
    by_cases e1 : aa = p.r <;> by_cases e2 : ab = p.n <;> simp_all))
  have c4b : (!(aa == p.r) || (!(ab == p.n))) = false := by simp [c4.1, c4.2]
  have hh : p.promise node ⟨aa, ab, ac, ad, as_⟩ = ({ p with prom := p.prom.set node.toNat true, best := if LessP p.best.c p.best.d ac ad then ⟨aa, ab, ac, ad, as_⟩ else p.best }, true) := if_pos ⟨c0, c1, c2, c3, c4⟩
  by_cases c5 : LessP p.best.c p.best.d ac ad
  · rw [if_pos c5] at hh
    exact F hh.symm (promise_c7 g p node aa ab ac ad as_ w HP HT ke re _ ⟨HE⟩ c0b c1 k.1 k.2 c2 ce c4b ⟨by rw [less_is, decide_eq_true c5]⟩)
  · rw [if_neg c5] at hh
    exact F hh.symm (promise_c6 g p node aa ab ac ad as_ w HP HT ke re _ ⟨HE⟩ c0b c1 k.1 k.2 c2 ce c4b ⟨by rw [less_is, decide_eq_false c5]⟩)

end Go.Proofs.YtnmcknfkmelnbaaDoor.P
