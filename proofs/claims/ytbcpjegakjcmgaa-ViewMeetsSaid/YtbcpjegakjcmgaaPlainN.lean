/- Views, told plainly: who is of a view, and what the next one is. -/
import Derived.Test.YtbcpjegakjcmgaaPx2
import Derived.Test.YtbcpjegakjcmgaaPx3
import Derived.Test.YtbcpjegakjcmgaaPx5
import Derived.Test.YtbcpjegakjcmgaaPlainP
namespace Go.Proofs.Ytbcpjegakjcmgaa.P
open Go.RowKit Go.Proofs.YtbcpjegakjcmgaaW.PrintWords Go.Proofs.YtbcpjegakjcmgaaW.PrintLast Go.Proofs.YtbcpjegakjcmgaaW.PrintMore
set_option linter.unusedSimpArgs false
set_option linter.unusedVariables false
set_option maxRecDepth 100000
abbrev VM := S26
theorem vm_ext {a b : VM} (h0 : a.f0 = b.f0) (h1 : a.f1 = b.f1) : a = b := by cases a; cases b; simp_all
theorem hasS_mem (l : List VM) (m : VM) : hasS l m = true ↔ m ∈ l := by
  unfold hasS
  rw [List.any_eq_true]
  constructor
  · rintro ⟨x, hx, h⟩
    simp only [Bool.and_eq_true, beq_iff_eq] at h
    exact vm_ext h.1 h.2 ▸ hx
  · intro h
    exact ⟨m, h, by simp⟩
theorem vhas_is (n : Int) (l : List VM) (m0 m1 : Int) (hl : l.length ≤ 9223372036854775807) (k : Nat) (hk : l.length < k) : view_Has.f k n l m0 m1 = some (hasS l ⟨m0, m1⟩) := by
  unfold view_Has.f
  have := has_loop l ⟨m0, m1⟩ hl l.length 0 k (by omega) hk
  rw [List.drop_zero] at this
  exact this
theorem vcommon_is (n n' : Int) (l l' : List VM) (hl : l.length ≤ 1000000000000000) (hl' : l'.length ≤ 1000000000000000) : view_Common.f n l n' l' = some (((l.filter (hasS l')).length : Nat) : Int) := by
  unfold view_Common.f
  rw [if_pos ⟨hl, hl'⟩]
theorem vmaj_is (n : Int) (l : List VM) (hl : l.length ≤ 1000000000000000) : view_Majority.f n l = some (((l.length / 2 + 1 : Nat)) : Int) := by
  unfold view_Majority.f
  congr 1
  unfold wrap64
  omega
/-! Slices: Contains. -/
theorem vidx_loop (l : List Int) (x : Int) (hl : l.length ≤ 4611686018427387904) (d : Nat) : ∀ (i k : Nat), i + d = l.length → d < k →
    ∃ r : Int, slices_Index_int_int.l0 k l x (l.length : Int) (i : Int) = some r ∧ (decide (r ≥ 0) = decide (x ∈ l.drop i)) := by
  induction d with
  | zero =>
    intro i k hi hk
    obtain ⟨k, rfl⟩ : ∃ m, k = m + 1 := ⟨k - 1, by omega⟩
    refine ⟨-1, ?_, ?_⟩
    · simp only [slices_Index_int_int.l0]
      rw [if_neg (by omega)]
    · rw [List.drop_of_length_le (by omega)]
      simp
  | succ d ih =>
    intro i k hi hk
    obtain ⟨k, rfl⟩ : ∃ m, k = m + 1 := ⟨k - 1, by omega⟩
    have hlt : i < l.length := by omega
    have ew : wrap64 ((i : Int) + 1) = ((i + 1 : Nat) : Int) := by unfold wrap64; omega
    have hrd : rd l (i : Int) = l[i] := by
      unfold rd
      rw [show ((i : Int)).toNat = i from rfl, List.getD_eq_getElem?_getD, List.getElem?_eq_getElem hlt]
      rfl
    rw [List.drop_eq_getElem_cons hlt]
    simp only [slices_Index_int_int.l0]
    rw [if_pos (by omega), if_pos (by omega), if_pos (by omega), hrd, ew]
    by_cases h : x = l[i]
    · rw [if_pos h]
      have e1 : ((i : Int) ≥ 0) := by omega
      have e2 : x ∈ l[i] :: l.drop (i + 1) := by rw [h]; exact List.mem_cons_self ..
      exact ⟨_, rfl, by rw [decide_eq_true e1, decide_eq_true e2]⟩
    · rw [if_neg h]
      obtain ⟨r, h1, h2⟩ := ih (i + 1) k (by omega) (by omega)
      exact ⟨r, h1, by rw [h2]; exact decide_eq_decide.2 (by rw [List.mem_cons]; simp [h])⟩
theorem vcontains_is (l : List Int) (x : Int) (hl : l.length ≤ 4611686018427387904) (k : Nat) (hk : l.length < k) : slices_Contains_int_int.f k l x = some (decide (x ∈ l)) := by
  unfold slices_Contains_int_int.f slices_Index_int_int.f
  obtain ⟨r, h1, h2⟩ := vidx_loop l x hl l.length 0 k (by omega) hk
  have h1' : slices_Index_int_int.l0 k l x (l.length : Int) 0 = some r := h1
  rw [h1', List.drop_zero] at *
  simp only [Option.bind_some]
  rw [h2]
/-! The next view. -/
def nxLife (b : Int) (alive : List VM) (n : Int) : Int := alive.foldl (fun b m => if m.f0 = n then nmx b m.f1 else b) b
def lifeW (wanted : List Int) (alive : List VM) (n : Int) : Int := if n ∈ wanted then nxLife 0 alive n else 0
def lives (wanted : List Int) (alive : List VM) : List Int := (List.range 7).map fun n : Nat => lifeW wanted alive (n : Int)
def outFrom (L : Int → Int) : Nat → Nat → List VM
  | 0, _ => []
  | d + 1, i => (if L (i : Int) > 0 then [⟨(i : Int), L (i : Int)⟩] else []) ++ outFrom L d (i + 1)
def rmAll (l : List VM) : Bool := l.all fun m => decide (RM m.f0 m.f1)
def nextS (num : Int) (ms alive : List VM) (wanted : List Int) : Int × List VM × Int :=
  if ViewP num ms = true ∧ num ≠ 9007199254740991 then
    if rmAll alive = true then
      if (ms.filter (hasS (outFrom (lifeW wanted alive) 7 0))).length < ms.length / 2 + 1 then (0, [], 12) else (num + 1, outFrom (lifeW wanted alive) 7 0, 0)
    else (0, [], 1)
  else (0, [], 1)
theorem lives_getD (wanted : List Int) (alive : List VM) (i : Nat) (h : i < 7) : (lives wanted alive).getD i 0 = lifeW wanted alive (i : Int) := by
  unfold lives
  rw [List.getD_eq_getElem?_getD, List.getElem?_map, List.getElem?_range h]
  rfl
theorem life_snoc (p : List VM) (m : VM) (n : Int) (b : Int) : nxLife b (p ++ [m]) n = if m.f0 = n then nmx (nxLife b p n) m.f1 else nxLife b p n := by
  unfold nxLife
  rw [List.foldl_append]
  rfl
theorem lives_step (wanted : List Int) (p : List VM) (m : VM) (h0 : 0 ≤ m.f0) (h7 : m.f0 < 7) :
    lives wanted (p ++ [m]) = if m.f0 ∈ wanted then (lives wanted p).set m.f0.toNat (nmx ((lives wanted p).getD m.f0.toNat 0) m.f1) else lives wanted p := by
  obtain ⟨q, hq⟩ : ∃ q : Nat, m.f0 = (q : Int) := ⟨m.f0.toNat, (Int.toNat_of_nonneg h0).symm⟩
  have hq7 : q < 7 := by omega
  have hlen : ∀ a, (lives wanted a).length = 7 := fun a => by unfold lives; simp
  have hel : ∀ (a : List VM) (i : Nat) (h : i < (lives wanted a).length), (lives wanted a)[i] = lifeW wanted a (i : Int) := by
    intro a i h
    simp [lives]
  rw [hq, show ((q : Int)).toNat = q from rfl, lives_getD _ _ _ hq7]
  by_cases hw : (q : Int) ∈ wanted
  · rw [if_pos hw]
    apply List.ext_getElem
    · rw [hlen, List.length_set, hlen]
    · intro i hi hi'
      rw [List.getElem_set, hel, hel]
      unfold lifeW
      rw [life_snoc, hq]
      by_cases e : q = i
      · subst e
        rw [if_pos hw, if_pos rfl, if_pos rfl]
        rw [if_pos hw]
      · rw [if_neg e, if_neg (show ¬ ((q : Int) = (i : Int)) by omega)]
  · rw [if_neg hw]
    apply List.ext_getElem
    · rw [hlen, hlen]
    · intro i hi hi'
      rw [hel, hel]
      unfold lifeW
      by_cases hi : (i : Int) ∈ wanted
      · rw [if_pos hi, if_pos hi, life_snoc, hq, if_neg (by intro e; rw [e] at hw; exact hw hi)]
      · rw [if_neg hi, if_neg hi]
theorem vnext_tail (num : Int) (ms : List VM) (lv : List Int) (L : Int → Int) (hms : ms.length ≤ 1000000000000000) (hL : ∀ i : Nat, i < 7 → lv.getD i 0 = L (i : Int)) (num' : Int) (d : Nat) : ∀ (i k : Nat) (acc : List VM), i + d = 7 → acc.length ≤ i → d < k →
    view_Next.l1 k (i : Int) lv num ms num' acc = some (if (ms.filter (hasS (acc ++ outFrom L d i))).length < ms.length / 2 + 1 then (0, [], 12) else (num', acc ++ outFrom L d i, 0)) := by
  induction d with
  | zero =>
    intro i k acc hi ha hk
    obtain ⟨k, rfl⟩ : ∃ m, k = m + 1 := ⟨k - 1, by omega⟩
    simp only [view_Next.l1]
    rw [if_neg (by omega), vcommon_is _ _ _ _ hms (by omega), vmaj_is _ _ hms]
    simp only [Option.bind_some, outFrom, List.append_nil]
    by_cases h : (ms.filter (hasS acc)).length < ms.length / 2 + 1
    · rw [if_pos h, if_pos (by omega)]
    · rw [if_neg h, if_neg (by omega)]
  | succ d ih =>
    intro i k acc hi ha hk
    obtain ⟨k, rfl⟩ : ∃ m, k = m + 1 := ⟨k - 1, by omega⟩
    have ew : wrap64 ((i : Int) + 1) = ((i + 1 : Nat) : Int) := by unfold wrap64; omega
    simp only [view_Next.l1]
    rw [if_pos (by omega), if_pos (by omega), show ((i : Int)).toNat = i from rfl, hL i (by omega), ew]
    by_cases h : L (i : Int) > 0
    · have hb : outFrom L (d + 1) i = [⟨(i : Int), L (i : Int)⟩] ++ outFrom L d (i + 1) := by
        show (if L (i : Int) > 0 then _ else _) ++ _ = _
        rw [if_pos h]
      rw [if_pos h, if_pos (by omega), ih (i + 1) k _ (by omega) (by simp; omega) (by omega), List.append_assoc, ← hb]
    · have hb : outFrom L (d + 1) i = outFrom L d (i + 1) := by
        show (if L (i : Int) > 0 then _ else _) ++ _ = _
        rw [if_neg h, List.nil_append]
      rw [if_neg h, ih (i + 1) k _ (by omega) (by omega) (by omega), ← hb]
theorem vnext_loop (num : Int) (ms alive : List VM) (wanted : List Int) (hms : ms.length ≤ 1000000000000000) (ha : alive.length ≤ 1000000000000000) (hw : wanted.length ≤ 4611686018427387904) (d : Nat) : ∀ (i k : Nat), i + d = alive.length → d + wanted.length + 10 < k →
    view_Next.l0 k wanted alive (alive.length : Int) (i : Int) num ms (lives wanted (alive.take i)) =
      some (if rmAll (alive.drop i) = true then (if (ms.filter (hasS (outFrom (lifeW wanted alive) 7 0))).length < ms.length / 2 + 1 then (0, [], 12) else (wrap64 (num + 1), outFrom (lifeW wanted alive) 7 0, 0)) else (0, [], 1)) := by
  induction d with
  | zero =>
    intro i k hi hk
    obtain ⟨k, rfl⟩ : ∃ m, k = m + 1 := ⟨k - 1, by omega⟩
    simp only [view_Next.l0]
    rw [if_neg (by omega), List.drop_of_length_le (by omega), List.take_of_length_le (by omega)]
    have := vnext_tail num ms (lives wanted alive) (lifeW wanted alive) hms (fun i h => lives_getD wanted alive i h) (wrap64 (num + 1)) 7 0 k [] (by omega) (by simp) (by omega)
    rw [if_pos (show rmAll [] = true from rfl)]
    rw [List.nil_append] at this
    exact this
  | succ d ih =>
    intro i k hi hk
    obtain ⟨k, rfl⟩ : ∃ m, k = m + 1 := ⟨k - 1, by omega⟩
    have hlt : i < alive.length := by omega
    have ew : wrap64 ((i : Int) + 1) = ((i + 1 : Nat) : Int) := by unfold wrap64; omega
    have hst := lives_step wanted (alive.take i) alive[i]
    rw [← List.take_succ_eq_append_getElem hlt] at hst
    simp only [view_Next.l0]
    rw [if_pos (by omega), if_pos (by omega), if_pos (by omega), rdM alive i hlt, ew, rm_is, List.drop_eq_getElem_cons hlt]
    simp only [Option.bind_some]
    have hall : ∀ r, rmAll (alive[i] :: r) = (decide (RM alive[i].f0 alive[i].f1) && rmAll r) := fun r => by unfold rmAll; rw [List.all_cons]
    rw [hall]
    by_cases h : RM alive[i].f0 alive[i].f1
    · have h' := h
      unfold RM at h'
      rw [if_pos (by simpa using h), vcontains_is wanted _ hw k (by omega)]
      simp only [Option.bind_some]
      have hi' := ih (i + 1) k (by omega) (by omega)
      rw [hst h'.1 h'.2.1] at hi'
      by_cases hw' : alive[i].f0 ∈ wanted
      · rw [if_pos (by simpa using hw'), if_pos h'.1, if_pos h'.2.1]
        rw [if_pos hw'] at hi'
        rw [hi']
        simp [h]
      · rw [if_neg (by simpa using hw')]
        rw [if_neg hw'] at hi'
        rw [hi']
        simp [h]
    · rw [if_neg (by simpa using h)]
      simp [h]
theorem vnext_is (num : Int) (ms alive : List VM) (wanted : List Int) (hms : ms.length ≤ 1000000000000000) (ha : alive.length ≤ 1000000000000000) (hw : wanted.length ≤ 4611686018427387904) (k : Nat) (hk : alive.length + wanted.length + ms.length + 10 < k) :
    view_Next.f k num ms alive wanted = some (nextS num ms alive wanted) := by
  unfold view_Next.f nextS
  rw [vright_is num ms (by omega) k (by omega)]
  simp only [Option.bind_some]
  by_cases hv : ViewP num ms = true
  · rw [if_pos hv]
    by_cases hn : num = 9007199254740991
    · rw [if_pos hn, if_neg (fun h => h.2 hn)]
    · rw [if_neg hn, if_pos ⟨hv, hn⟩]
      have hb : 1 ≤ num ∧ num ≤ 9007199254740991 := by
        unfold ViewP at hv
        simp only [Bool.and_eq_true, decide_eq_true_eq] at hv
        exact ⟨hv.1.1.2, hv.1.2⟩
      have := vnext_loop num ms alive wanted hms ha hw alive.length 0 k (by omega) (by omega)
      rw [List.take_zero, List.drop_zero, show wrap64 (num + 1) = num + 1 by unfold wrap64; omega] at this
      have e0 : lives wanted [] = [0, 0, 0, 0, 0, 0, 0] := by
        unfold lives lifeW nxLife
        simp [List.range, List.range.loop]
      rw [e0] at this
      exact this
  · rw [if_neg hv, if_neg (fun h => hv h.1)]
/-! What the next view is like. -/
theorem outFrom_mem (L : Int → Int) (x : VM) : ∀ (d i : Nat), x ∈ outFrom L d i → ∃ n : Nat, i ≤ n ∧ n < i + d ∧ x = ⟨(n : Int), L (n : Int)⟩ ∧ L (n : Int) > 0
  | 0, i => by intro h; simp [outFrom] at h
  | d + 1, i => by
    intro h
    simp only [outFrom] at h
    rcases List.mem_append.1 h with h | h
    · by_cases hp : L (i : Int) > 0
      · rw [if_pos hp] at h
        exact ⟨i, Nat.le_refl _, by omega, List.mem_singleton.1 h, hp⟩
      · rw [if_neg hp] at h
        simp at h
    · obtain ⟨n, h1, h2, h3⟩ := outFrom_mem L x d (i + 1) h
      exact ⟨n, by omega, by omega, h3⟩
theorem outFrom_len (L : Int → Int) : ∀ (d i : Nat), (outFrom L d i).length ≤ d
  | 0, i => Nat.le_refl _
  | d + 1, i => by
    have := outFrom_len L d (i + 1)
    simp only [outFrom, List.length_append]
    by_cases hp : L (i : Int) > 0
    · rw [if_pos hp]; simp; omega
    · rw [if_neg hp]; simp; omega
theorem outFrom_VR (L : Int → Int) (hL : ∀ n, L n ≤ 9007199254740991) : ∀ (d i : Nat) (last : Int), i + d ≤ 7 → last < i → VR last (outFrom L d i) = true
  | 0, i, last => fun _ _ => rfl
  | d + 1, i, last => by
    intro hi hl
    have hLi := hL (i : Int)
    simp only [outFrom]
    by_cases hp : L (i : Int) > 0
    · rw [if_pos hp]
      have := outFrom_VR L hL d (i + 1) (i : Int) (by omega) (by omega)
      show (decide (RM (i : Int) (L (i : Int))) && decide (last < (i : Int)) && VR (i : Int) (outFrom L d (i + 1))) = true
      rw [this, Bool.and_true, Bool.and_eq_true, decide_eq_true_eq, decide_eq_true_eq]
      unfold RM
      omega
    · rw [if_neg hp, List.nil_append]
      exact outFrom_VR L hL d (i + 1) last (by omega) (by omega)
theorem life_from (alive : List VM) (n : Int) : ∀ b, nxLife b alive n = b ∨ ∃ m ∈ alive, m.f0 = n ∧ m.f1 = nxLife b alive n := by
  induction alive with
  | nil => intro b; exact .inl rfl
  | cons a r ih =>
    intro b
    have e : nxLife b (a :: r) n = nxLife (if a.f0 = n then nmx b a.f1 else b) r n := rfl
    rw [e]
    by_cases h : a.f0 = n
    · rw [if_pos h]
      rcases ih (nmx b a.f1) with h1 | ⟨m, hm, h2⟩
      · rw [h1]
        unfold nmx
        split
        · exact .inr ⟨a, List.mem_cons_self .., h, rfl⟩
        · exact .inl rfl
      · exact .inr ⟨m, List.mem_cons_of_mem _ hm, h2⟩
    · rw [if_neg h]
      rcases ih b with h1 | ⟨m, hm, h2⟩
      · exact .inl h1
      · exact .inr ⟨m, List.mem_cons_of_mem _ hm, h2⟩
theorem lifeW_le (wanted : List Int) (alive : List VM) (h : rmAll alive = true) (n : Int) : lifeW wanted alive n ≤ 9007199254740991 := by
  unfold lifeW
  split
  · rcases life_from alive n 0 with h1 | ⟨m, hm, _, h2⟩
    · omega
    · unfold rmAll at h
      rw [List.all_eq_true] at h
      have := h m hm
      simp only [decide_eq_true_eq] at this
      unfold RM at this
      omega
  · omega
theorem hasS_nil (m : VM) : hasS [] m = false := rfl
theorem filter_hasS_nil (l : List VM) : l.filter (hasS []) = [] := by
  rw [List.filter_eq_nil_iff]
  intro a _
  rw [hasS_nil]
  decide
/-- What holds where there is a next view. -/
theorem nextS_ok {num : Int} {ms alive : List VM} {wanted : List Int} {num' : Int} {out : List VM} (h : nextS num ms alive wanted = (num', out, 0)) :
    ViewP num ms = true ∧ num ≠ 9007199254740991 ∧ rmAll alive = true ∧ num' = num + 1 ∧ out = outFrom (lifeW wanted alive) 7 0 ∧ ms.length / 2 + 1 ≤ (ms.filter (hasS out)).length := by
  unfold nextS at h
  split at h
  · rename_i h1
    split at h
    · rename_i h2
      split at h
      · simp at h
      · rename_i h3
        simp only [Prod.mk.injEq] at h
        obtain ⟨rfl, rfl, _⟩ := h
        exact ⟨h1.1, h1.2, h2, rfl, rfl, by omega⟩
    · simp at h
  · simp at h
theorem nextS_bad {num : Int} {ms alive : List VM} {wanted : List Int} {num' e : Int} {out : List VM} (h : nextS num ms alive wanted = (num', out, e)) (he : e ≠ 0) : num' = 0 ∧ out = [] := by
  unfold nextS at h
  split at h
  · split at h
    · split at h
      · simp only [Prod.mk.injEq] at h; exact ⟨h.1.symm, h.2.1.symm⟩
      · simp only [Prod.mk.injEq] at h; exact absurd h.2.2.symm he
    · simp only [Prod.mk.injEq] at h; exact ⟨h.1.symm, h.2.1.symm⟩
  · simp only [Prod.mk.injEq] at h; exact ⟨h.1.symm, h.2.1.symm⟩
theorem nextS_len (num : Int) (ms alive : List VM) (wanted : List Int) : (nextS num ms alive wanted).2.1.length ≤ 7 := by
  unfold nextS
  split
  · split
    · split
      · simp
      · exact outFrom_len _ 7 0
    · simp
  · simp
end Go.Proofs.Ytbcpjegakjcmgaa.P
