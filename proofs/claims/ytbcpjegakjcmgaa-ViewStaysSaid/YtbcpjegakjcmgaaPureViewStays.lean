/- The law ViewStays, over plain functions. -/
import Derived.Test.YtbcpjegakjcmgaaKinds
import Derived.Test.YtbcpjegakjcmgaaPlainN
import Derived.Test.YtbcpjegakjcmgaaPx10
namespace Go.Proofs.Ytbcpjegakjcmgaa.P
open Go.RowKit Go.Proofs.YtbcpjegakjcmgaaW.PrintWords
set_option linter.unusedVariables false
set_option linter.unusedSimpArgs false
set_option maxRecDepth 100000
def carillonlaw12_ViewStays.Pure : Prop := ∀ (x0 : S24) (x1 : List Int), wf24 x0 → (∀ n ∈ lens24 x0, n ≤ 140737488351232) → (fun l : List Int => ∀ a ∈ l, (fun n : Int => (Lit.int .i64 n).wf = true) a) x1 → (∀ n ∈ (fun l : List Int => l.length * 8 :: l.flatMap (fun _ : Int => ([] : List Nat))) x1, n ≤ 140737488351232) → ∃ k, carillonlaw12_ViewStays.f k (x0.f0) (x0.f1) x1 = some true
theorem life_none (r : List VM) (n : Int) (h : ∀ m ∈ r, m.f0 ≠ n) : ∀ b, nxLife b r n = b := by
  induction r with
  | nil => intro b; rfl
  | cons a r ih =>
    intro b
    have e : nxLife b (a :: r) n = nxLife (if a.f0 = n then nmx b a.f1 else b) r n := rfl
    rw [e, if_neg (h a (List.mem_cons_self ..))]
    exact ih (fun m hm => h m (List.mem_cons_of_mem _ hm)) b
theorem vr_gt : ∀ (ms : List VM) (last : Int), VR last ms = true → ∀ m ∈ ms, last < m.f0
  | [], _ => fun _ m hm => by cases hm
  | a :: r, last => by
    intro h x hx
    simp only [VR, Bool.and_eq_true, decide_eq_true_eq] at h
    rcases List.mem_cons.1 hx with rfl | hx
    · exact h.1.2
    · have := vr_gt r a.f0 h.2 x hx
      omega
theorem outFrom_congr (L L' : Int → Int) : ∀ (d i : Nat), (∀ n : Nat, i ≤ n → n < i + d → L (n : Int) = L' (n : Int)) → outFrom L d i = outFrom L' d i
  | 0, i => fun _ => rfl
  | d + 1, i => by
    intro h
    simp only [outFrom]
    rw [h i (Nat.le_refl _) (by omega), outFrom_congr L L' d (i + 1) (fun n h1 h2 => h n (by omega) (by omega))]
theorem outFrom_self : ∀ (d i : Nat) (ms : List VM) (last : Int), i + d = 7 → VR last ms = true → (∀ m ∈ ms, (i : Int) ≤ m.f0) → outFrom (nxLife 0 ms) d i = ms
  | 0, i, ms, last => by
    intro hi h hm
    cases ms with
    | nil => rfl
    | cons a r =>
      have h1 := vr_all _ _ h a (List.mem_cons_self ..)
      have h2 := hm a (List.mem_cons_self ..)
      unfold RM at h1
      omega
  | d + 1, i, ms, last => by
    intro hi h hm
    cases ms with
    | nil =>
      simp only [outFrom]
      rw [show nxLife 0 ([] : List VM) (i : Int) = 0 from rfl, if_neg (by omega), List.nil_append]
      exact outFrom_self d (i + 1) [] last (by omega) rfl (fun m hm => by cases hm)
    | cons a r =>
      have h' := h
      simp only [VR, Bool.and_eq_true, decide_eq_true_eq] at h'
      obtain ⟨⟨hr, hl⟩, hv⟩ := h'
      have hgt := vr_gt r a.f0 hv
      have hai := hm a (List.mem_cons_self ..)
      unfold RM at hr
      by_cases e : a.f0 = (i : Int)
      · have hlife : nxLife 0 (a :: r) (i : Int) = a.f1 := by
          have e1 : nxLife 0 (a :: r) (i : Int) = nxLife (if a.f0 = (i : Int) then nmx 0 a.f1 else 0) r (i : Int) := rfl
          rw [e1, if_pos e, life_none r (i : Int) (fun m hm' => by have := hgt m hm'; omega)]
          unfold nmx
          rw [if_pos (by omega)]
        have hrest : outFrom (nxLife 0 (a :: r)) d (i + 1) = outFrom (nxLife 0 r) d (i + 1) := outFrom_congr _ _ d (i + 1) (fun n h1 h2 => by
          have e1 : nxLife 0 (a :: r) (n : Int) = nxLife (if a.f0 = (n : Int) then nmx 0 a.f1 else 0) r (n : Int) := rfl
          rw [e1, if_neg (by omega)])
        simp only [outFrom]
        rw [hlife, if_pos (by omega), hrest, outFrom_self d (i + 1) r a.f0 (by omega) hv (fun m hm' => by have := hgt m hm'; omega)]
        show (⟨(i : Int), a.f1⟩ : VM) :: r = a :: r
        rw [← e]
      · simp only [outFrom]
        have hlife : nxLife 0 (a :: r) (i : Int) = 0 := life_none _ _ (fun m hm' => by
          rcases List.mem_cons.1 hm' with rfl | hm'
          · exact e
          · have := hgt m hm'; omega) 0
        rw [hlife, if_neg (by omega), List.nil_append]
        exact outFrom_self d (i + 1) (a :: r) last (by omega) h (fun m hm' => by
          rcases List.mem_cons.1 hm' with rfl | hm'
          · omega
          · have := hgt m hm'; omega)
theorem stays_next {num : Int} {ms : List VM} (h : ViewP num ms = true) (hn : num ≠ 9007199254740991) (wanted : List Int) (hw : ∀ m ∈ ms, m.f0 ∈ wanted) : nextS num ms ms wanted = (num + 1, ms, 0) := by
  have h' := h
  unfold ViewP at h'
  simp only [Bool.and_eq_true, decide_eq_true_eq] at h'
  have hv : VR (-1) ms = true := h'.1.1.1
  have hall := vr_all ms _ hv
  have hrm : rmAll ms = true := by
    unfold rmAll
    rw [List.all_eq_true]
    intro m hm
    simpa using hall m hm
  have ho : outFrom (lifeW wanted ms) 7 0 = ms := by
    have e1 : outFrom (lifeW wanted ms) 7 0 = outFrom (nxLife 0 ms) 7 0 := outFrom_congr _ _ 7 0 (fun n _ _ => by
      unfold lifeW
      by_cases hx : (n : Int) ∈ wanted
      · rw [if_pos hx]
      · rw [if_neg hx, life_none ms (n : Int) (fun m hm e => hx (e ▸ hw m hm))])
    rw [e1]
    exact outFrom_self 7 0 ms (-1) (by omega) hv (fun m hm => by have := hall m hm; unfold RM at this; omega)
  have hf : ms.filter (hasS ms) = ms := List.filter_eq_self.2 (fun m hm => (hasS_mem ms m).2 hm)
  unfold nextS
  rw [if_pos ⟨h, hn⟩, if_pos hrm, ho, hf, if_neg (by omega)]
theorem stays_l1 (x5 : Bool) (n n' : Int) (ms : List VM) (hl : ms.length ≤ 1000000000000000) (d : Nat) : ∀ (i k : Nat), i + d = ms.length → d < k → carillonlaw12_ViewStays.l1 k x5 (i : Int) n ms n' ms = some x5 := by
  induction d with
  | zero =>
    intro i k hi hk
    obtain ⟨k, rfl⟩ : ∃ x, k = x + 1 := ⟨k - 1, by omega⟩
    simp only [carillonlaw12_ViewStays.l1]
    rw [if_neg (by omega)]
  | succ d ih =>
    intro i k hi hk
    obtain ⟨k, rfl⟩ : ∃ x, k = x + 1 := ⟨k - 1, by omega⟩
    have ew : wrap64 ((i : Int) + 1) = ((i + 1 : Nat) : Int) := by unfold wrap64; omega
    simp only [carillonlaw12_ViewStays.l1]
    rw [if_pos (by omega), if_pos (by omega), if_pos (by omega), ew, ih (i + 1) k (by omega) (by omega), if_neg (by simp)]
theorem stays_l0 {num : Int} {ms : List VM} (h : ViewP num ms = true) (hn : num ≠ 9007199254740991) (more : List Int) (hmo : more.length ≤ 17592186043904) (hl : ms.length ≤ 7) (d : Nat) : ∀ (i k : Nat), i + d = ms.length → 100 + more.length + d < k →
    carillonlaw12_ViewStays.l0 k true (more ++ (ms.take i).map (·.f0)) (i : Int) num ms = some true := by
  induction d with
  | zero =>
    intro i k hi hk
    obtain ⟨k, rfl⟩ : ∃ x, k = x + 1 := ⟨k - 1, by omega⟩
    simp only [carillonlaw12_ViewStays.l0]
    rw [if_neg (by omega), List.take_of_length_le (by omega), vnext_is num ms ms _ (by omega) (by omega) (by simp; omega) k (by simp; omega), stays_next h hn _ (fun m hm => List.mem_append_right _ (List.mem_map.2 ⟨m, hm, rfl⟩))]
    simp only [Option.bind_some, if_true]
    exact stays_l1 true num (num + 1) ms (by omega) ms.length 0 k (by omega) (by omega)
  | succ d ih =>
    intro i k hi hk
    obtain ⟨k, rfl⟩ : ∃ x, k = x + 1 := ⟨k - 1, by omega⟩
    have hlt : i < ms.length := by omega
    have ew : wrap64 ((i : Int) + 1) = ((i + 1 : Nat) : Int) := by unfold wrap64; omega
    simp only [carillonlaw12_ViewStays.l0]
    rw [if_pos (by omega), if_pos (by omega), if_pos (by simp; omega), ew, rdM ms i hlt]
    have := ih (i + 1) k (by omega) (by omega)
    rw [List.take_succ_eq_append_getElem hlt, List.map_append, ← List.append_assoc] at this
    exact this
theorem ViewStays : carillonlaw12_ViewStays.Pure := by
  intro x0 x1 _ hn0 _ hn1
  have h0 := hn0 _ (List.mem_cons_self ..)
  have h1 := hn1 _ (List.mem_cons_self ..)
  refine ⟨x0.f1.length + x1.length + 200, ?_⟩
  unfold carillonlaw12_ViewStays.f
  rw [show carillonlaw12_examples.f = some true from rfl, vright_is _ _ (by omega) _ (by omega)]
  simp only [Option.bind_some]
  by_cases h : ViewP x0.f0 x0.f1 = true
  · rw [if_pos h]
    have h' := h
    unfold ViewP at h'
    simp only [Bool.and_eq_true, decide_eq_true_eq] at h'
    have hl : x0.f1.length ≤ 7 := by
      rcases vr_len x0.f1 (-1) (by omega) h'.1.1.1 with hh | hh
      · omega
      · rw [hh]; simp
    by_cases hg : x0.f0 ≥ 9007199254740991
    · rw [if_pos hg]
    · rw [if_neg hg, if_pos (by simp; omega)]
      have := stays_l0 h (by omega) x1 (by omega) hl x0.f1.length 0 (x0.f1.length + x1.length + 200) (by omega) (by omega)
      simpa using this
  · rw [if_neg h]
end Go.Proofs.Ytbcpjegakjcmgaa.P
