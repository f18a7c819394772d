/- Replies: what is written, and what is read. -/
import Derived.Test.YtpgiagdpepkooaaDoorPx10
import Derived.Test.YtpgiagdpepkooaaDoorPx11
import Derived.Test.YtpgiagdpepkooaaDoorPx12
import Derived.Test.YtpgiagdpepkooaaDoorPx32
import Derived.Test.YtpgiagdpepkooaaDoorPlainS
import Derived.Test.YtpgiagdpepkooaaDoorPlainB
namespace Go.Proofs.YtpgiagdpepkooaaDoor.P
open Go.RowKit Go.Proofs.YtpgiagdpepkooaaDoorW.PrintWords Go.Proofs.YtpgiagdpepkooaaDoorW.PrintLast Go.Proofs.YtpgiagdpepkooaaDoorW.PrintMore
set_option linter.unusedSimpArgs false
set_option linter.unusedVariables false
set_option maxRecDepth 100000
theorem sright14 (a : Int) (p : ByteArray) (c : Int) (q v : ByteArray) : segment_Right.f a p c q v = some (decide (RecP ⟨a, p, c, q, v⟩)) := by
  have h1 : mn a c ≥ 0 ↔ 0 ≤ a ∧ 0 ≤ c := by unfold mn; split <;> omega
  have h2 : mx a c ≤ 9007199254740991 ↔ a ≤ 9007199254740991 ∧ c ≤ 9007199254740991 := by unfold mx; split <;> omega
  unfold segment_Right.f
  by_cases g1 : mn a c ≥ 0
  case neg => rw [if_neg g1, decide_eq_false (by intro h; unfold RecP at h; dsimp only at h; exact g1 (h1.2 ⟨h.1.1, h.2.1.1⟩))]
  rw [if_pos g1]
  by_cases g2 : mx a c ≤ 9007199254740991
  case neg => rw [if_neg g2, decide_eq_false (by intro h; unfold RecP at h; dsimp only at h; exact g2 (h2.2 ⟨h.1.2, h.2.1.2⟩))]
  rw [if_pos g2]
  by_cases g3 : (p.size : Int) ≤ 20
  case neg => rw [if_neg g3, decide_eq_false (by intro h; unfold RecP at h; dsimp only at h; omega)]
  rw [if_pos g3]
  by_cases g4 : (q.size : Int) ≤ 100
  case neg => rw [if_neg g4, decide_eq_false (by intro h; unfold RecP at h; dsimp only at h; omega)]
  rw [if_pos g4]
  congr 1
  refine decide_eq_decide.2 ?_
  unfold RecP
  dsimp only
  rw [h1] at g1
  rw [h2] at g2
  omega
theorem rdR14 (l : List SR) (i : Nat) (h : i < l.length) : rd_T48 l (i : Int) = l[i] := by
  unfold rd_T48
  rw [show ((i : Int)).toNat = i from rfl, List.getD_eq_getElem?_getD, List.getElem?_eq_getElem h]
  rfl
/-- May a reply be told? -/
def headB (code n : Int) (m : Nat) : Bool := decide (0 ≤ code) && decide (code < 256) && decide (-1 ≤ n) && decide (n ≤ 9007199254740991) && decide (m ≤ 50)
def toldB (code n : Int) (l : List SR) : Bool := (l.all fun r => decide (RecP r)) && headB code n l.length
theorem told_loop (code n : Int) (l : List SR) (hl : l.length ≤ 4611686018427387904) (d : Nat) : ∀ (i k : Nat), i + d = l.length → d < k →
    command_told.l0 k l (l.length : Int) (i : Int) code n l = some (((l.drop i).all fun r => decide (RecP r)) && headB code n l.length) := by
  induction d with
  | zero =>
    intro i k hi hk
    obtain ⟨k, rfl⟩ : ∃ q, k = q + 1 := ⟨k - 1, by omega⟩
    simp only [command_told.l0]
    rw [if_neg (by omega), List.drop_of_length_le (by omega), List.all_nil, Bool.true_and]
    unfold headB
    by_cases h1 : code ≥ 0
    case neg => rw [if_neg h1, decide_eq_false (by omega)]; rfl
    rw [if_pos h1, decide_eq_true (show 0 ≤ code from h1)]
    by_cases h2 : code < 256
    case neg => rw [if_neg h2, decide_eq_false h2]; rfl
    rw [if_pos h2, decide_eq_true h2]
    by_cases h3 : n ≥ -1
    case neg => rw [if_neg h3, decide_eq_false (show ¬ -1 ≤ n by omega)]; rfl
    rw [if_pos h3, decide_eq_true (show -1 ≤ n from h3)]
    by_cases h4 : n ≤ 9007199254740991
    case neg => rw [if_neg h4, decide_eq_false h4]; rfl
    rw [if_pos h4, decide_eq_true h4]
    apply congrArg some
    simp only [Bool.true_and]
    rw [decide_eq_decide]
    omega
  | succ d ih =>
    intro i k hi hk
    obtain ⟨k, rfl⟩ : ∃ q, k = q + 1 := ⟨k - 1, by omega⟩
    have hlt : i < l.length := by omega
    simp only [command_told.l0]
    rw [if_pos (by omega), if_pos (by omega), if_pos (by omega), rdR14 l i hlt, sright14, List.drop_eq_getElem_cons hlt, List.all_cons]
    simp only [Option.bind_some]
    by_cases h : RecP l[i]
    · rw [if_pos (decide_eq_true h), show wrap64 ((i : Int) + 1) = ((i + 1 : Nat) : Int) by unfold wrap64; omega, ih (i + 1) k (by omega) (by omega), decide_eq_true h, Bool.true_and]
    · rw [if_neg (by simpa using h), decide_eq_false h]
      rfl
theorem told_is (code n : Int) (l : List SR) (hl : l.length ≤ 4611686018427387904) (k : Nat) (hk : l.length < k) : command_told.f k code n l = some (toldB code n l) := by
  unfold command_told.f toldB
  have := told_loop code n l hl l.length 0 k (by omega) hk
  rw [List.drop_zero] at this
  exact this
theorem told_parts {code n : Int} {l : List SR} (h : toldB code n l = true) : (∀ r ∈ l, RecP r) ∧ (0 ≤ code ∧ code < 256) ∧ (-1 ≤ n ∧ n ≤ 9007199254740991) ∧ l.length ≤ 50 := by
  unfold toldB headB at h
  simp only [Bool.and_eq_true, decide_eq_true_eq, List.all_eq_true] at h
  obtain ⟨h1, ⟨⟨⟨h2, h3⟩, h4⟩, h5⟩, h6⟩ := h
  exact ⟨h1, ⟨h2, h3⟩, ⟨h4, h5⟩, h6⟩
/-- The items of a reply, and their bytes. -/
def recsI (l : List SR) : List SI := l.flatMap rItems
def recsN (l : List SR) : List Int := l.flatMap recN
theorem recsI_len (l : List SR) : (recsI l).length = 5 * l.length := by
  unfold recsI
  induction l with
  | nil => rfl
  | cons x l ih => rw [List.flatMap_cons, List.length_append, ih, List.length_cons]; show 5 + _ = _; omega
theorem recs_enc : ∀ (l : List SR), (∀ r ∈ l, RecP r) → encAll (recsI l) = .ok (recsN l)
  | [], _ => rfl
  | x :: l, h => by
    unfold recsI recsN
    rw [List.flatMap_cons, List.flatMap_cons, encAll_append, rItems_enc (h x (List.mem_cons_self ..))]
    have := recs_enc l (fun r hr => h r (List.mem_cons_of_mem _ hr))
    unfold recsI recsN at this
    rw [this]
theorem recs_wf (l : List SR) (h : ∀ r ∈ l, RecP r) : ∀ x ∈ recsI l, WfI x := by
  intro x hx
  unfold recsI at hx
  obtain ⟨r, hr, hx⟩ := List.mem_flatMap.1 hx
  exact rItems_wf (h r hr) x hx
theorem recsN_len : ∀ (l : List SR), (∀ r ∈ l, RecP r) → (recsN l).length ≤ 1148 * l.length
  | [], _ => Nat.le_refl _
  | x :: l, h => by
    have h1 := recB_le (h x (List.mem_cons_self ..))
    have h2 := recsN_len l (fun r hr => h r (List.mem_cons_of_mem _ hr))
    unfold recB at h1
    rw [son_size] at h1
    unfold recsN at h2 ⊢
    rw [List.flatMap_cons, List.length_append, List.length_cons]
    omega
def repI (ask code n : Int) (l : List SR) : List SI := ⟨3, ask, ⟨#[]⟩⟩ :: ⟨1, code, ⟨#[]⟩⟩ :: ⟨3, n + 1, ⟨#[]⟩⟩ :: recsI l
def repN (ask code n : Int) (l : List SR) : List Int := beI ask 8 ++ (beI code 1 ++ (beI (n + 1) 8 ++ recsN l))
def repT (ask code n : Int) (l : List SR) : ByteArray := strOfNums (repN ask code n l)
def okR (ask code n : Int) (l : List SR) : Bool := toldB code n l && (decide (0 ≤ ask) && decide (ask ≤ 9007199254740991))
theorem okR_parts {ask code n : Int} {l : List SR} (h : okR ask code n l = true) : toldB code n l = true ∧ 0 ≤ ask ∧ ask ≤ 9007199254740991 := by
  unfold okR at h
  simp only [Bool.and_eq_true, decide_eq_true_eq] at h
  exact ⟨h.1, h.2.1, h.2.2⟩
theorem rep_enc {ask code n : Int} {l : List SR} (h : okR ask code n l = true) : encAll (repI ask code n l) = .ok (repN ask code n l) ∧ (∀ x ∈ repI ask code n l, WfI x) ∧ (repI ask code n l).length ≤ 253 ∧ (repN ask code n l).length ≤ 60000 := by
  obtain ⟨h1, h2, h3⟩ := okR_parts h
  obtain ⟨h4, h5, h6, h7⟩ := told_parts h1
  have hl := recsI_len l
  have hn := recsN_len l h4
  refine ⟨?_, ?_, ?_, ?_⟩
  · unfold repI repN
    simp only [encAll, encLg, encBt _ h5.1 h5.2, recs_enc l h4]
  · intro x hx
    unfold repI at hx
    simp only [List.mem_cons] at hx
    rcases hx with rfl | rfl | rfl | hx
    · exact wfLg (by omega) (by omega)
    · exact wfBt (by omega) (by omega)
    · exact wfLg (by omega) (by omega)
    · exact recs_wf l h4 x hx
  · unfold repI
    simp only [List.length_cons]
    omega
  · unfold repN
    simp only [List.length_append, beI_length]
    omega
theorem ans_loop (l : List SR) (h4 : ∀ r ∈ l, RecP r) (hl : l.length ≤ 50) (d : Nat) : ∀ (i k : Nat) (acc : List SI) (m : List Int), i + d = l.length → d + 1012 < k → acc.length ≤ 5 * i + 3 → (∀ x ∈ acc ++ recsI (l.drop i), WfI x) → encAll (acc ++ recsI (l.drop i)) = .ok m → (acc ++ recsI (l.drop i)).length ≤ 1000 → m.length ≤ 60000 →
    command_Answer.l0 k acc l (l.length : Int) (i : Int) = some (frame (strOfNums m), 0) := by
  induction d with
  | zero =>
    intro i k acc m hi hk ha hw he hz hm
    obtain ⟨k, rfl⟩ : ∃ q, k = q + 1 := ⟨k - 1, by omega⟩
    rw [List.drop_of_length_le (by omega)] at hw he hz
    have e0 : acc ++ recsI [] = acc := List.append_nil _
    rw [e0] at hw he hz
    simp only [command_Answer.l0]
    rw [if_neg (by omega), encode_is acc hw k (by omega), encS_of he hz]
    simp only [Option.bind_some, if_true]
    rw [frame_is, son_size, if_neg (by omega)]
    rfl
  | succ d ih =>
    intro i k acc m hi hk ha hw he hz hm
    obtain ⟨k, rfl⟩ : ∃ q, k = q + 1 := ⟨k - 1, by omega⟩
    have hlt : i < l.length := by omega
    have hr := h4 l[i] (List.getElem_mem _)
    have hr' := hr
    unfold RecP at hr'
    simp only [command_Answer.l0]
    rw [if_pos (by omega), if_pos (by omega), if_pos (by omega), rdR14 l i hlt]
    simp only [command_long.f, command_text.f, Option.bind_some]
    rw [wrapU64 (show 0 ≤ l[i].f0 by omega) (by omega), wrapU64 (show 0 ≤ l[i].f2 by omega) (by omega)]
    rw [if_pos (by simp only [List.length_cons, List.length_nil]; omega), show wrap64 ((i : Int) + 1) = ((i + 1 : Nat) : Int) by unfold wrap64; omega]
    have e1 : acc ++ recsI (l.drop i) = (acc ++ rItems l[i]) ++ recsI (l.drop (i + 1)) := by
      rw [List.drop_eq_getElem_cons hlt]
      unfold recsI
      rw [List.flatMap_cons, List.append_assoc]
    rw [e1] at hw he hz
    refine ih (i + 1) k (acc ++ rItems l[i]) m (by omega) (by omega) ?_ hw he hz hm
    rw [List.length_append]
    show acc.length + 5 ≤ _
    omega
def ansV (ask code n : Int) (l : List SR) : ByteArray × Int := if okR ask code n l = true then (frame (repT ask code n l), 0) else (⟨#[]⟩, 1)
theorem answer_is (ask code n : Int) (l : List SR) (hl : l.length ≤ 4611686018427387904) (k : Nat) (hk : l.length + 1100 < k) : command_Answer.f k ask code n l = some (ansV ask code n l) := by
  unfold command_Answer.f ansV
  rw [told_is code n l hl k (by omega)]
  simp only [Option.bind_some]
  obtain ⟨k, rfl⟩ : ∃ q, k = q + 1 := ⟨k - 1, by omega⟩
  have hbad : command_Answer.j0 (k + 1) ask true code n l = some (⟨#[]⟩, 1) := by
    simp only [command_Answer.j0]
    rw [if_pos trivial]
  cases ht : toldB code n l
  · rw [if_neg (by decide), hbad]
    unfold okR
    rw [ht]
    rfl
  · rw [if_pos rfl]
    by_cases h0 : ask < 0
    · rw [if_pos h0, hbad, if_neg (fun h => by have := (okR_parts h).2.1; omega)]
    rw [if_neg h0]
    by_cases h1 : ask > 9007199254740991
    · rw [decide_eq_true h1, hbad, if_neg (fun h => by have := (okR_parts h).2.2; omega)]
    have hok : okR ask code n l = true := by
      unfold okR
      rw [ht, decide_eq_true (show 0 ≤ ask by omega), decide_eq_true (show ask ≤ 9007199254740991 by omega)]
      rfl
    rw [decide_eq_false h1, if_pos hok]
    obtain ⟨h4, h5, h6, h7⟩ := told_parts ht
    obtain ⟨q1, q2, q3, q4⟩ := rep_enc hok
    simp only [command_Answer.j0]
    rw [if_neg (by decide)]
    simp only [command_long.f, command_small.f, Option.bind_some]
    rw [wrapU64 (show 0 ≤ ask by omega) (by omega), wrapU64 h5.1 (by omega), wrap64_id (show -9223372036854775808 ≤ n + 1 by omega) (by omega), wrapU64 (show 0 ≤ n + 1 by omega) (by omega)]
    exact ans_loop l h4 h7 l.length 0 k [⟨3, ask, ⟨#[]⟩⟩, ⟨1, code, ⟨#[]⟩⟩, ⟨3, n + 1, ⟨#[]⟩⟩] (repN ask code n l) (by omega) (by omega) (by simp) (by rw [List.drop_zero]; exact q2) (by rw [List.drop_zero]; exact q1) (by rw [List.drop_zero]; exact Nat.le_trans q3 (by omega)) q4
/-- What is read of a record's items. -/
def RecW (r : SR) : Prop := (0 ≤ r.f0 ∧ r.f0 < 18446744073709551616) ∧ (0 ≤ r.f2 ∧ r.f2 < 18446744073709551616)
theorem groups_of (j : Nat) : ∀ (l : List SI) (e : List Int), encAll l = .ok e → (∀ x ∈ l, WfI x) → l.map (·.f0) = (List.replicate j [3, 4, 3, 4, 4]).flatten →
    ∃ rs : List SR, rs.length = j ∧ l = recsI rs ∧ ∀ r ∈ rs, RecW r := by
  induction j with
  | zero =>
    intro l e _ _ hk
    have : l = [] := List.map_eq_nil_iff.1 (by rw [hk]; simp)
    subst this
    exact ⟨[], rfl, rfl, fun m h => by cases h⟩
  | succ j ih =>
    intro l e he hw hk
    rw [List.replicate_succ, List.flatten_cons] at hk
    have hea := encAll_each l e he
    match l, hk, he, hw, hea with
    | [], hk, _, _, _ => simp at hk
    | [x], hk, _, _, _ => simp at hk
    | [x, y], hk, _, _, _ => simp at hk
    | [x, y, z], hk, _, _, _ => simp at hk
    | [x, y, z, u], hk, _, _, _ => simp at hk
    | x :: y :: z :: u :: v :: r, hk, he, hw, hea =>
      simp only [List.map_cons, List.cons_append, List.nil_append, List.cons.injEq] at hk
      obtain ⟨k0, k1, k2, k3, k4, kr⟩ := hk
      obtain ⟨a0, e0⟩ := hea x (by simp)
      obtain ⟨a1, e1⟩ := hea y (by simp)
      obtain ⟨a2, e2⟩ := hea z (by simp)
      obtain ⟨a3, e3⟩ := hea u (by simp)
      obtain ⟨a4, e4⟩ := hea v (by simp)
      obtain ⟨v0, rfl, p0, p1⟩ := item3 e0 (hw x (by simp)) k0
      obtain ⟨t1, rfl, _⟩ := item4 e1 k1
      obtain ⟨v2, rfl, q0, q1⟩ := item3 e2 (hw z (by simp)) k2
      obtain ⟨t3, rfl, _⟩ := item4 e3 k3
      obtain ⟨t4, rfl, _⟩ := item4 e4 k4
      have hr : ∃ c, encAll r = .ok c := by
        simp only [encAll, e0, e1, e2, e3, e4] at he
        cases hc : encAll r with
        | error e1 => rw [hc] at he; cases he
        | ok c => exact ⟨c, rfl⟩
      obtain ⟨c, hc⟩ := hr
      obtain ⟨rs, h1, h2, h3⟩ := ih r c hc (fun x hx => hw x (by simp [hx])) kr
      subst h2
      refine ⟨⟨v0, t1, v2, t3, t4⟩ :: rs, by rw [List.length_cons, h1], rfl, fun m hm => ?_⟩
      rcases List.mem_cons.1 hm with rfl | hm
      · exact ⟨⟨p0, p1⟩, ⟨q0, q1⟩⟩
      · exact h3 m hm
abbrev Lr : List UInt8 := [108, 98, 108, 42, 108, 116, 108, 116, 116]
theorem parse_r : parseS Lr = some ([3, 1, 3], [3, 4, 3, 4, 4]) := by decide
theorem rep_items {b : ByteArray} (hb : b.size ≤ 1000000000000000) {l : List SI} (h : decodeS Lr b = (l, 0)) :
    ∃ a c m rs, l = ⟨3, a, ⟨#[]⟩⟩ :: ⟨1, c, ⟨#[]⟩⟩ :: ⟨3, m, ⟨#[]⟩⟩ :: recsI rs ∧ (0 ≤ a ∧ a < 18446744073709551616) ∧ (0 ≤ c ∧ c < 256) ∧ (0 ≤ m ∧ m < 18446744073709551616) ∧ (∀ r ∈ rs, RecW r) ∧ rs.length ≤ 200 ∧ ∃ e, encAll l = .ok e ∧ b = strOfNums e := by
  unfold decodeS at h
  rw [parse_r] at h
  obtain ⟨m, e, hm, h1, h2, h3, h4, j, h5⟩ := enc_dec [3, 4, 3, 4, 4] (by intro x hx; simp only [List.mem_cons, List.not_mem_nil, or_false] at hx; omega) 1000 [3, 1, 3] [] b l (by intro x hx; simp only [List.mem_cons, List.not_mem_nil, or_false] at hx; omega) hb h
  rw [List.nil_append] at hm
  subst hm
  have hea := encAll_each l e h1
  match l, h1, h3, h4, h5, hea with
  | [], _, _, _, h5, _ => simp at h5
  | [x], _, _, _, h5, _ => simp at h5
  | [x, y], _, _, _, h5, _ => simp at h5
  | x :: y :: z :: r, h1, h3, h4, h5, hea =>
    simp only [List.map_cons, List.cons_append, List.nil_append, List.cons.injEq] at h5
    obtain ⟨k0, k1, k2, kr⟩ := h5
    obtain ⟨a0, e0⟩ := hea x (by simp)
    obtain ⟨a1, e1⟩ := hea y (by simp)
    obtain ⟨a2, e2⟩ := hea z (by simp)
    obtain ⟨v0, rfl, p0, p1⟩ := item3 e0 (h3 x (by simp)) k0
    obtain ⟨v1, rfl, q0, q1⟩ := item1 e1 (h3 y (by simp)) k1
    obtain ⟨v2, rfl, s0, s1⟩ := item3 e2 (h3 z (by simp)) k2
    have hr : ∃ c, encAll r = .ok c := by
      have he := h1
      simp only [encAll, e0, e1, e2] at he
      cases hc : encAll r with
      | error e1 => rw [hc] at he; cases he
      | ok c => exact ⟨c, rfl⟩
    obtain ⟨c, hc⟩ := hr
    obtain ⟨rs, g1, g2, g3⟩ := groups_of j r c hc (fun x hx => h3 x (by simp [hx])) kr
    subst g2
    simp only [List.length_cons, recsI_len] at h4
    exact ⟨v0, v1, v2, rs, rfl, ⟨p0, p1⟩, ⟨q0, q1⟩, ⟨s0, s1⟩, g3, by omega, e, h1, ba_eq (by rw [h2, son_data])⟩
theorem answered_loop (L : List SI) (a c n : Int) (hL : rd_T57 L 0 = ⟨3, a, ⟨#[]⟩⟩) (hL0 : 0 < L.length) (ha : 0 ≤ a ∧ a ≤ 9007199254740991) : ∀ (rs acc : List SR) (k : Nat), (∀ r ∈ rs, RecW r) → rs.length + 210 < k → acc.length + rs.length ≤ 200 →
    command_Answered.l0 k L (recsI rs) c n acc = some (if toldB c n (acc ++ rs) = true then (a, c, n, acc ++ rs, 0) else (0, 0, 0, [], 10)) := by
  intro rs
  induction rs with
  | nil =>
    intro acc k _ hk hl
    obtain ⟨k, rfl⟩ : ∃ q, k = q + 1 := ⟨k - 1, by omega⟩
    have e0 : recsI [] = [] := rfl
    simp only [command_Answered.l0]
    rw [e0, if_neg (by decide), told_is c n acc (by omega) k (by simp only [List.length_nil] at hl; omega), List.append_nil]
    simp only [Option.bind_some]
    cases toldB c n acc
    · rw [if_neg (by decide), if_neg (by decide)]
    · rw [if_pos rfl, if_pos rfl, if_pos (by omega), hL]
      dsimp only
      rw [wrap64_id (by omega) (by omega)]
  | cons r rs ih =>
    intro acc k hw hk hl
    obtain ⟨k, rfl⟩ : ∃ q, k = q + 1 := ⟨k - 1, by omega⟩
    simp only [List.length_cons] at hk hl
    have hlen := recsI_len (r :: rs)
    rw [List.length_cons] at hlen
    have r0 : rd_T57 (recsI (r :: rs)) 0 = ⟨3, r.f0, ⟨#[]⟩⟩ := rfl
    have r1 : rd_T57 (recsI (r :: rs)) 1 = ⟨4, 0, r.f1⟩ := rfl
    have r2 : rd_T57 (recsI (r :: rs)) 2 = ⟨3, r.f2, ⟨#[]⟩⟩ := rfl
    have r3 : rd_T57 (recsI (r :: rs)) 3 = ⟨4, 0, r.f3⟩ := rfl
    have r4 : rd_T57 (recsI (r :: rs)) 4 = ⟨4, 0, r.f4⟩ := rfl
    have rd : (recsI (r :: rs)).drop 5 = recsI rs := rfl
    obtain ⟨⟨w0, w1⟩, w2, w3⟩ := hw r (List.mem_cons_self ..)
    have hno : ¬ RecP r → toldB c n (acc ++ r :: rs) = false := fun h => by
      cases ht : toldB c n (acc ++ r :: rs)
      · rfl
      · exact absurd ((told_parts ht).1 r (by simp)) h
    simp only [command_Answered.l0]
    rw [r0, r1, r2, r3, r4, rd]
    simp only [command_fits.f, Option.bind_some]
    rw [if_pos (by omega), if_pos (by omega)]
    by_cases c0 : r.f0 ≤ 9007199254740991
    case neg => rw [if_neg (by simpa using c0), hno (by unfold RecP; omega)]; rfl
    rw [if_pos (by simpa using c0), if_pos (by omega)]
    by_cases c2 : r.f2 ≤ 9007199254740991
    case neg => rw [if_neg (by simpa using c2), hno (by unfold RecP; omega)]; rfl
    rw [if_pos (by simpa using c2), if_pos (by omega), if_pos (by omega), if_pos (by omega), if_pos (by omega), if_pos (by omega)]
    rw [wrap64_id (show -9223372036854775808 ≤ r.f0 by omega) (by omega), wrap64_id (show -9223372036854775808 ≤ r.f2 by omega) (by omega)]
    rw [ih (acc ++ [(⟨r.f0, r.f1, r.f2, r.f3, r.f4⟩ : SR)]) k (fun x hx => hw x (List.mem_cons_of_mem _ hx)) (by omega) (by rw [List.length_append]; simp; omega), List.append_assoc]
    rfl
def recsG : List SI → List SR
  | a :: b :: c :: d :: e :: r => ⟨a.f1, b.f2, c.f1, d.f2, e.f2⟩ :: recsG r
  | _ => []
theorem recsG_I : ∀ rs : List SR, recsG (recsI rs) = rs
  | [] => rfl
  | r :: rs => by
    have h := recsG_I rs
    show (⟨r.f0, r.f1, r.f2, r.f3, r.f4⟩ : SR) :: recsG (recsI rs) = r :: rs
    rw [h]
abbrev Rep := Int × Int × Int × List SR
def repOf (l : List SI) : Rep := ((l.getD 0 z57).f1, (l.getD 1 z57).f1, (l.getD 2 z57).f1 - 1, recsG (l.drop 3))
def zRep : Rep := (0, 0, 0, [])
def okQ (q : Rep) : Bool := okR q.1 q.2.1 q.2.2.1 q.2.2.2
def repV (b : ByteArray) : Rep × Int := if (decodeS Lr b).2 = 0 ∧ okQ (repOf (decodeS Lr b).1) = true then (repOf (decodeS Lr b).1, 0) else (zRep, 10)
def answeredV (s : ByteArray) : Rep × Int := if (framedV s).2 = 0 then repV (framedV s).1 else (zRep, (framedV s).2)
def tupR (q : Rep × Int) : Int × Int × Int × List SR × Int := (q.1.1, q.1.2.1, q.1.2.2.1, q.1.2.2.2, q.2)
theorem repOf_items (a c m : Int) (rs : List SR) : repOf (⟨3, a, ⟨#[]⟩⟩ :: ⟨1, c, ⟨#[]⟩⟩ :: ⟨3, m, ⟨#[]⟩⟩ :: recsI rs) = (a, c, m - 1, rs) := by
  show (a, c, m - 1, recsG (recsI rs)) = _
  rw [recsG_I]
theorem repI_enc {ask code n : Int} {l : List SR} (h : okR ask code n l = true) : repV (repT ask code n l) = ((ask, code, n, l), 0) := by
  obtain ⟨q1, q2, q3, q4⟩ := rep_enc h
  have hd : decodeS Lr (repT ask code n l) = (repI ask code n l, 0) := by
    unfold decodeS
    rw [parse_r]
    dsimp only
    obtain ⟨h1, h2, h3⟩ := okR_parts h
    obtain ⟨h4, h5, h6, h7⟩ := told_parts h1
    have e1 : encAll [(⟨3, ask, ⟨#[]⟩⟩ : SI), ⟨1, code, ⟨#[]⟩⟩, ⟨3, n + 1, ⟨#[]⟩⟩] = .ok (beI ask 8 ++ (beI code 1 ++ (beI (n + 1) 8 ++ []))) := by
      simp only [encAll, encLg, encBt _ h5.1 h5.2]
    have := dec_enc [3, 4, 3, 4, 4] (toU (recsN l)) [(⟨3, ask, ⟨#[]⟩⟩ : SI), ⟨1, code, ⟨#[]⟩⟩, ⟨3, n + 1, ⟨#[]⟩⟩] _ 1000 [] [] (repT ask code n l) (fun x hx => q2 x (by unfold repI; simp only [List.mem_cons, List.not_mem_nil, or_false] at hx ⊢; rcases hx with h | h | h <;> simp [h])) e1 (by simp) (by
      unfold repT repN
      rw [son_data, ← toU_append]
      simp only [List.append_assoc, List.nil_append])
    simp only [List.map_cons, List.map_nil, List.nil_append, List.append_nil] at this
    rw [this]
    have hkinds : ∀ rs : List SR, (recsI rs).map (·.f0) = (List.replicate rs.length [3, 4, 3, 4, 4]).flatten := by
      intro rs
      induction rs with
      | nil => rfl
      | cons x rs ih =>
        rw [List.length_cons, List.replicate_succ, List.flatten_cons, ← ih]
        rfl
    rw [dec_enc_star [3, 4, 3, 4, 4] (by decide) l.length (recsI l) (recsN l) _ _ _ (recs_wf l h4) (recs_enc l h4) (hkinds l) (by rw [recsI_len]; show 5 * l.length ≤ 997; omega) rfl]
    rfl
  have ho : repOf (repI ask code n l) = (ask, code, n, l) := by
    unfold repI
    rw [repOf_items, Int.add_sub_cancel]
  unfold repV
  rw [hd]
  dsimp only
  rw [ho, if_pos ⟨rfl, h⟩]
theorem repV_back {b : ByteArray} {q : Rep} (hb : b.size ≤ 1000000000000000) (h : repV b = (q, 0)) : okQ q = true ∧ b = repT q.1 q.2.1 q.2.2.1 q.2.2.2 := by
  unfold repV at h
  split at h
  · rename_i hc
    obtain ⟨hc, hr⟩ := hc
    obtain ⟨l, hd⟩ : ∃ l, decodeS Lr b = (l, 0) := ⟨_, Prod.ext rfl hc⟩
    rw [hd] at h hr
    dsimp only at h hr
    obtain ⟨a, c, m, rs, rfl, _, _, _, _, _, e, he, hbe⟩ := rep_items hb hd
    obtain ⟨rfl, _⟩ := Prod.mk.inj h
    refine ⟨hr, ?_⟩
    rw [repOf_items] at hr ⊢
    have he2 := (rep_enc hr).1
    have : repI a c (m - 1) rs = ⟨3, a, ⟨#[]⟩⟩ :: ⟨1, c, ⟨#[]⟩⟩ :: ⟨3, m, ⟨#[]⟩⟩ :: recsI rs := by
      unfold repI
      rw [Int.sub_add_cancel]
    rw [this, he] at he2
    show b = strOfNums (repN a c (m - 1) rs)
    rw [hbe]
    cases he2
    rfl
  · simp at h
theorem repV_or (b : ByteArray) : (∃ q, repV b = (q, 0)) ∨ repV b = (zRep, 10) := by
  unfold repV
  split
  · exact .inl ⟨_, rfl⟩
  · exact .inr rfl
theorem answered_is (s : ByteArray) (hs : s.size ≤ 140737488351232) (k : Nat) (hk : 6100 ≤ k) : command_Answered.f k s = some (tupR (answeredV s)) := by
  unfold command_Answered.f answeredV
  rw [framed_is s (by omega)]
  simp only [Option.bind_some]
  by_cases h : (framedV s).2 = 0
  case neg => rw [if_neg h, if_neg h]; rfl
  rw [if_pos h, if_pos h]
  have hz : (framedV s).1.size ≤ 1000000000000000 := by
    rcases framed_or s with ⟨b, hb, hl⟩ | ⟨e, he, hb⟩
    · rw [hb]; dsimp only; omega
    · rw [hb] at h; exact absurd h he
  generalize (framedV s).1 = b at *
  rw [decode_is _ b (by decide) hz k (by omega)]
  simp only [Option.bind_some]
  obtain ⟨k, rfl⟩ : ∃ q, k = q + 1 := ⟨k - 1, by omega⟩
  have hbad : ∀ l, command_Answered.j0 (k + 1) l true = some (tupR (zRep, 10)) := fun l => by
    simp only [command_Answered.j0]
    rw [if_pos trivial]
    rfl
  show (if (decodeS Lr b).2 = 0 then _ else _) = _
  by_cases h0 : (decodeS Lr b).2 = 0
  case neg =>
    unfold repV
    rw [if_neg h0, hbad, if_neg (fun hc => h0 hc.1)]
  obtain ⟨l, hd⟩ : ∃ l, decodeS Lr b = (l, 0) := ⟨_, Prod.ext rfl h0⟩
  obtain ⟨a, c, m, rs, rfl, ha, hc, hm, hr, hrl, _⟩ := rep_items hz hd
  have hrv : repV b = if okR a c (m - 1) rs = true then ((a, c, m - 1, rs), 0) else (zRep, 10) := by
    unfold repV
    rw [hd]
    dsimp only
    rw [repOf_items]
    unfold okQ
    dsimp only
    by_cases hr : okR a c (m - 1) rs = true
    · rw [if_pos ⟨rfl, hr⟩, if_pos hr]
    · rw [if_neg (fun hc => hr hc.2), if_neg hr]
  rw [show decodeS ((⟨#[108, 98, 108, 42, 108, 116, 108, 116, 116]⟩ : ByteArray).data.toList) b = (⟨3, a, ⟨#[]⟩⟩ :: ⟨1, c, ⟨#[]⟩⟩ :: ⟨3, m, ⟨#[]⟩⟩ :: recsI rs, 0) from hd, hrv]
  dsimp only
  have r0 : rd_T57 (⟨3, a, ⟨#[]⟩⟩ :: ⟨1, c, ⟨#[]⟩⟩ :: ⟨3, m, ⟨#[]⟩⟩ :: recsI rs) 0 = ⟨3, a, ⟨#[]⟩⟩ := rfl
  have r1 : rd_T57 (⟨3, a, ⟨#[]⟩⟩ :: ⟨1, c, ⟨#[]⟩⟩ :: ⟨3, m, ⟨#[]⟩⟩ :: recsI rs) 1 = ⟨1, c, ⟨#[]⟩⟩ := rfl
  have r2 : rd_T57 (⟨3, a, ⟨#[]⟩⟩ :: ⟨1, c, ⟨#[]⟩⟩ :: ⟨3, m, ⟨#[]⟩⟩ :: recsI rs) 2 = ⟨3, m, ⟨#[]⟩⟩ := rfl
  have rd : (⟨3, a, ⟨#[]⟩⟩ :: ⟨1, c, ⟨#[]⟩⟩ :: ⟨3, m, ⟨#[]⟩⟩ :: recsI rs : List SI).drop 3 = recsI rs := rfl
  have hl : 3 ≤ (⟨3, a, ⟨#[]⟩⟩ :: ⟨1, c, ⟨#[]⟩⟩ :: ⟨3, m, ⟨#[]⟩⟩ :: recsI rs : List SI).length := by simp
  generalize (⟨3, a, ⟨#[]⟩⟩ :: ⟨1, c, ⟨#[]⟩⟩ :: ⟨3, m, ⟨#[]⟩⟩ :: recsI rs : List SI) = L at r0 r1 r2 rd hl ⊢
  rw [if_pos rfl, if_pos (by omega), r0, r2]
  simp only [command_fits.f, command_fitsOne.f, Option.bind_some]
  by_cases c0 : a ≤ 9007199254740991
  case neg => rw [if_neg (by simpa using c0), hbad, if_neg (fun h => c0 (okR_parts h).2.2)]
  rw [if_pos (by simpa using c0), if_pos (by omega)]
  by_cases c1 : m ≤ 9007199254740992
  case neg => rw [decide_eq_false c1, Bool.not_false, hbad, if_neg (fun h => by have := (told_parts (okR_parts h).1).2.2.1; omega)]
  rw [decide_eq_true c1, Bool.not_true]
  simp only [command_Answered.j0]
  rw [if_neg (by decide), if_pos (by omega), if_pos (by omega), r1, r2, rd]
  simp only [command_less.f, Option.bind_some]
  rw [if_pos (by omega), wrap64_id (show -9223372036854775808 ≤ m by omega) (by omega), wrap64_id (show -9223372036854775808 ≤ m - 1 by omega) (by omega), wrap64_id (show -9223372036854775808 ≤ c by omega) (by omega)]
  rw [answered_loop L a c (m - 1) r0 (by omega) ⟨ha.1, c0⟩ rs [] k hr (by omega) (by simpa using hrl), List.nil_append]
  have hoo : okR a c (m - 1) rs = toldB c (m - 1) rs := by
    unfold okR
    rw [decide_eq_true ha.1, decide_eq_true c0, Bool.and_self, Bool.and_true]
  rw [hoo]
  cases toldB c (m - 1) rs
  · rfl
  · rfl
theorem answered_enc {ask code n : Int} {l : List SR} (h : okR ask code n l = true) : answeredV (frame (repT ask code n l)) = ((ask, code, n, l), 0) := by
  have hz := (rep_enc h).2.2.2
  have hs : (repT ask code n l).size ≤ 400000 := by unfold repT; rw [son_size]; omega
  unfold answeredV
  rw [framed_enc hs]
  dsimp only
  rw [if_pos rfl, repI_enc h]
theorem answered_back {s : ByteArray} {q : Rep} (h : answeredV s = (q, 0)) : okQ q = true ∧ s = frame (repT q.1 q.2.1 q.2.2.1 q.2.2.2) := by
  unfold answeredV at h
  by_cases h1 : (framedV s).2 = 0
  · rw [if_pos h1] at h
    obtain ⟨hs, hb⟩ := framed_back (s := s) (b := (framedV s).1) (Prod.ext rfl h1)
    obtain ⟨hr, ht⟩ := repV_back (b := (framedV s).1) (by omega) h
    exact ⟨hr, by rw [← ht]; exact hs⟩
  · rw [if_neg h1] at h
    exact absurd (Prod.mk.inj h).2 h1
theorem answered_or (s : ByteArray) : (∃ q, answeredV s = (q, 0)) ∨ ∃ e, e ≠ 0 ∧ answeredV s = (zRep, e) := by
  unfold answeredV
  split
  · rcases repV_or (framedV s).1 with ⟨q, h⟩ | h
    · exact .inl ⟨q, h⟩
    · exact .inr ⟨10, by decide, h⟩
  · rename_i h
    exact .inr ⟨_, h, rfl⟩
theorem replies_loop (a b : Int) (l : List SR) (hl : l.length ≤ 4611686018427387904) (d : Nat) : ∀ (i k : Nat), i + d = l.length → d < k → carillonlaw14_replies.l0 k (i : Int) a b l a b l = some true := by
  induction d with
  | zero =>
    intro i k hi hk
    obtain ⟨k, rfl⟩ : ∃ q, k = q + 1 := ⟨k - 1, by omega⟩
    simp only [carillonlaw14_replies.l0]
    rw [if_neg (by omega)]
  | succ d ih =>
    intro i k hi hk
    obtain ⟨k, rfl⟩ : ∃ q, k = q + 1 := ⟨k - 1, by omega⟩
    simp only [carillonlaw14_replies.l0]
    rw [if_pos (by omega), if_pos (by omega), if_pos (by omega), if_neg (by simp), show wrap64 ((i : Int) + 1) = ((i + 1 : Nat) : Int) by unfold wrap64; omega]
    exact ih (i + 1) k (by omega) (by omega)
theorem replies_is (a b : Int) (l : List SR) (hl : l.length ≤ 4611686018427387904) (k : Nat) (hk : l.length < k) : carillonlaw14_replies.f k a b l a b l = some true := by
  unfold carillonlaw14_replies.f
  rw [if_pos rfl, if_pos rfl, if_pos rfl]
  exact replies_loop a b l hl l.length 0 k (by omega) hk
end Go.Proofs.YtpgiagdpepkooaaDoor.P
