/- A play of proposers keeps what agreement wants. -/
import Derived.Test.YtnmcknfkmelnbaaDoorWalkH
import Derived.Test.YtnmcknfkmelnbaaDoorPlainE
namespace Go.Proofs.YtnmcknfkmelnbaaDoor.P
open Go.RowKit Go.Proofs.YtnmcknfkmelnbaaDoorW.PrintWords Go.Proofs.YtnmcknfkmelnbaaDoorW.PrintLast Go.Proofs.YtnmcknfkmelnbaaDoorW.PrintMore
set_option linter.unusedSimpArgs false
set_option linter.unusedVariables false
set_option maxRecDepth 100000
/-- A play of three proposers. -/
structure PxS where
  n : Nat
  acc : List AcS
  top : Int
  who : List (Option PrS)
  bb : List (Int × Int)
  said : List ByteArray
def redB : ByteArray := ⟨#[114, 101, 100]⟩
def greenB : ByteArray := ⟨#[103, 114, 101, 101, 110]⟩
def blueB : ByteArray := ⟨#[98, 108, 117, 101]⟩
def ownB (i : Nat) : ByteArray := if i = 0 then redB else if i = 1 then greenB else blueB
def AcS.of (t : Int × Int × Int × Int × ByteArray × Bool) : AcS := ⟨t.1, t.2.1, t.2.2.1, t.2.2.2.1, t.2.2.2.2.1⟩
def AcS.prep (a : AcS) (b : Int × Int) := prepT a.a a.b a.c a.d a.s b.1 b.2
def AcS.take (a : AcS) (b : Int × Int) (v : ByteArray) := takeT a.a a.b a.c a.d a.s b.1 b.2 v
def PxS.begin (x : PxS) (i : Nat) : PxS :=
  { x with top := x.top + 1, bb := x.bb.set i (x.top + 1, (i : Int)), who := x.who.set i (some (prNew (x.top + 1) (i : Int) (nodesB x.n))) }
def PxS.ask (x : PxS) (i k : Nat) (p : PrS) (a : AcS) (b : Int × Int) : PxS :=
  if (a.prep b).2.2.2.2.2 = true then { x with acc := x.acc.set k (AcS.of (a.prep b)), who := x.who.set i (some (p.promise (k : Int) (AcS.of (a.prep b))).1) } else x
def PxS.end_ (x : PxS) (i : Nat) (p : PrS) : PxS := { x with who := x.who.set i (some p), said := if p.st = 2 then x.said ++ [p.val] else x.said }
def PxS.tell (x : PxS) (i k : Nat) (p : PrS) (a : AcS) (b : Int × Int) : PxS :=
  if (p.tell (ownB i)).2.2 ≠ 0 then x
  else if (a.take b (p.tell (ownB i)).2.1).2.2.2.2.2 = true then
    PxS.end_ { x with acc := x.acc.set k (AcS.of (a.take b (p.tell (ownB i)).2.1)) } i ((p.tell (ownB i)).1.taken (k : Int)).1
  else x.end_ i (p.tell (ownB i)).1
theorem bcnt_set {l : List Bool} {k : Nat} (h : l.getD k false = false) (hk : k < l.length) : bcnt (l.set k true) = bcnt l + 1 := by
  induction l generalizing k with
  | nil => simp at hk
  | cons x l ih =>
    cases k with
    | zero =>
      simp only [List.getD_cons_zero] at h
      subst h
      simp [bcnt]
    | succ k =>
      simp only [List.getD_cons_succ] at h
      simp only [List.set_cons_succ]
      have := ih h (by simpa using hk)
      unfold bcnt at *
      rw [List.count_cons, List.count_cons, this]
      omega
theorem getD_set_b (l : List Bool) (k j : Nat) : (l.set k true).getD j false = true → j = k ∨ l.getD j false = true := by
  intro h
  by_cases e : j = k
  · exact .inl e
  · right
    rw [List.getD_eq_getElem?_getD, List.getElem?_set_ne (by omega)] at h
    rwa [List.getD_eq_getElem?_getD]
theorem bq_inter : ∀ (N A B : List Bool), A.length = N.length → B.length = N.length → (∀ k, A.getD k false = true → N.getD k false = true) → (∀ k, B.getD k false = true → N.getD k false = true) →
    bcnt N < bcnt A + bcnt B → ∃ k, A.getD k false = true ∧ B.getD k false = true
  | [], [], [] => by intro _ _ _ _ h; simp [bcnt] at h
  | [], _ :: _, _ => by intro h; simp at h
  | [], _, _ :: _ => by intro _ h; simp at h
  | _ :: _, [], _ => by intro h; simp at h
  | _ :: _, _, [] => by intro _ h; simp at h
  | n :: N, a :: A, b :: B => by
    intro h1 h2 hA hB hc
    by_cases e : a = true ∧ b = true
    · exact ⟨0, by simpa using e.1, by simpa using e.2⟩
    · obtain ⟨k, hk⟩ := bq_inter N A B (by simpa using h1) (by simpa using h2) (fun k hk => by simpa using hA (k + 1) (by simpa using hk)) (fun k hk => by simpa using hB (k + 1) (by simpa using hk)) (by
        have ha := hA 0
        have hb := hB 0
        simp only [List.getD_cons_zero] at ha hb
        unfold bcnt at *
        rw [List.count_cons, List.count_cons, List.count_cons] at hc
        cases a <;> cases b <;> cases n <;> simp_all <;> omega)
      exact ⟨k + 1, by simpa using hk⟩
theorem nodesB_len (n : Nat) : (nodesB n).length = 7 := rfl
theorem nodesB_at (n k : Nat) : (nodesB n).getD k false = true ↔ k < 7 ∧ k < n := by
  unfold nodesB
  rw [List.getD_eq_getElem?_getD, List.getElem?_map]
  by_cases h : k < 7
  · rw [List.getElem?_range h]; simp [h]
  · rw [List.getElem?_eq_none (by simp; omega)]; simp; omega
/-- What holds of one proposer of a play. -/
structure PrI (n : Nat) (acc : List AcS) (vt : Nat → Int → Prop) (pv : Int → Option ByteArray) (p : PrS) : Prop where
  nodes : p.nodes = nodesB n
  lens : p.prom.length = 7 ∧ p.cntd.length = 7
  prom : ∀ k, p.prom.getD k false = true → k < 7 ∧ k < n
  cntd : ∀ k, p.cntd.getD k false = true → (k < 7 ∧ k < n) ∧ vt k p.r
  st : p.st = 0 ∧ pv p.r = none ∨ (p.st = 1 ∨ p.st = 2 ∧ n < 2 * bcnt p.cntd) ∧ pv p.r = some p.val
  best : p.st = 0 → (p.best.c = 0 ∧ p.best.d = 0 ∨ 1 ≤ p.best.c ∧ p.best.c < p.r ∧ pv p.best.c = some p.best.s) ∧ ∀ k, p.prom.getD k false = true → ∃ a, acc[k]? = some a ∧ p.r ≤ a.a ∧ ∀ r, r < p.r → vt k r → r ≤ p.best.c
/-- What a play keeps: the votes (vt: who took which round), the value of each round (pv). -/
structure PaxI (x : PxS) (vt : Nat → Int → Prop) (pv : Int → Option ByteArray) : Prop where
  n1 : 1 ≤ x.n ∧ x.n ≤ 7
  top0 : 0 ≤ x.top
  lA : x.acc.length = x.n
  lW : x.who.length = 3
  lB : x.bb.length = 3
  acc : ∀ (k : Nat) (a : AcS), x.acc[k]? = some a → a.a ≤ x.top ∧ 0 ≤ a.c ∧ a.c ≤ a.a ∧ (∀ r, vt k r → r ≤ a.c) ∧ (a.c = 0 ∧ a.d = 0 ∨ 1 ≤ a.c ∧ pv a.c = some a.s) ∧ AccP a.a a.b a.c a.d a.s
  vt1 : ∀ k r, vt k r → k < x.n ∧ pv r ≠ none
  pv1 : ∀ r, pv r ≠ none → 1 ≤ r ∧ r ≤ x.top
  who : ∀ (i : Nat) (p : PrS), x.who[i]? = some (some p) → x.bb[i]? = some (p.r, p.n) ∧ 1 ≤ p.r ∧ p.r ≤ x.top ∧ p.n = (i : Int) ∧ PrI x.n x.acc vt pv p
  apart : ∀ (i j : Nat) (p q : PrS), x.who[i]? = some (some p) → x.who[j]? = some (some q) → i ≠ j → p.r ≠ q.r
  safe : ∀ r v, pv r = some v → ∃ (m : Int) (Q : List Bool), Q.length = 7 ∧ (∀ k, Q.getD k false = true → k < 7 ∧ k < x.n) ∧ x.n < 2 * bcnt Q ∧ m < r ∧ (∀ k, Q.getD k false = true → ∃ a, x.acc[k]? = some a ∧ r ≤ a.a ∧ ∀ r', r' < r → vt k r' → r' ≤ m) ∧ (m = 0 ∧ (v = redB ∨ v = greenB ∨ v = blueB) ∨ pv m = some v)
  said : ∀ s, s ∈ x.said → ∃ r, pv r = some s ∧ ∃ V : List Bool, V.length = 7 ∧ (∀ k, V.getD k false = true → (k < 7 ∧ k < x.n) ∧ vt k r) ∧ x.n < 2 * bcnt V
section
variable {x : PxS} {vt : Nat → Int → Prop} {pv : Int → Option ByteArray}
theorem PaxI.agree (h : PaxI x vt pv) {r : Int} {v : ByteArray} (hv : pv r = some v) {V : List Bool} (hV : V.length = 7) (hV1 : ∀ k, V.getD k false = true → (k < 7 ∧ k < x.n) ∧ vt k r) (hV2 : x.n < 2 * bcnt V) :
    ∀ (n : Nat) (r' : Int) (v' : ByteArray), r' ≤ r + n → r ≤ r' → pv r' = some v' → v' = v := by
  intro n
  induction n with
  | zero =>
    intro r' v' h1 h2 h3
    obtain rfl : r' = r := by omega
    rw [hv] at h3
    exact (Option.some.inj h3).symm
  | succ n ih =>
    intro r' v' h1 h2 h3
    by_cases e : r' = r
    · subst e
      rw [hv] at h3
      exact (Option.some.inj h3).symm
    · obtain ⟨m, Q, q1, q2, q3, q4, q5, q6⟩ := h.safe r' v' h3
      obtain ⟨k, k1, k2⟩ := bq_inter (nodesB x.n) V Q (by rw [hV]; rfl) (by rw [q1]; rfl) (fun k hk => (nodesB_at _ _).2 (hV1 k hk).1) (fun k hk => (nodesB_at _ _).2 (q2 k hk)) (by rw [nodesB_cnt _ h.n1.2]; omega)
      obtain ⟨a, a1, a2, a3⟩ := q5 k k2
      have hm := a3 r (by omega) (hV1 k k1).2
      have h1r := (h.pv1 r (by rw [hv]; simp)).1
      rcases q6 with ⟨q6, _⟩ | q6
      · omega
      · exact ih m v' (by omega) hm q6
theorem PaxI.one (h : PaxI x vt pv) {s t : ByteArray} (hs : s ∈ x.said) (ht : t ∈ x.said) : s = t := by
  obtain ⟨r, h1, V, v1, v2, v3⟩ := h.said s hs
  obtain ⟨r', h1', V', v1', v2', v3'⟩ := h.said t ht
  rcases Int.le_total r r' with e | e
  · exact (h.agree h1 v1 v2 v3 (r' - r).toNat r' t (by omega) e h1').symm
  · exact h.agree h1' v1' v2' v3' (r - r').toNat r s (by omega) e h1
theorem PaxI.own (h : PaxI x vt pv) : ∀ (n : Nat) (r : Int) (v : ByteArray), r ≤ n → pv r = some v → v = redB ∨ v = greenB ∨ v = blueB := by
  intro n
  induction n with
  | zero =>
    intro r v h1 h2
    have := (h.pv1 r (by rw [h2]; simp)).1
    omega
  | succ n ih =>
    intro r v h1 h2
    obtain ⟨m, Q, q1, q2, q3, q4, q5, q6⟩ := h.safe r v h2
    rcases q6 with ⟨_, q6⟩ | q6
    · exact q6
    · exact ih m v (by omega) q6
theorem PaxI.own' (h : PaxI x vt pv) {r : Int} {v : ByteArray} (hv : pv r = some v) : v = redB ∨ v = greenB ∨ v = blueB := h.own r.toNat r v (by omega) hv
theorem set_at {α : Type} {l : List α} {i j : Nat} {a b : α} (h : (l.set i a)[j]? = some b) : j = i ∧ b = a ∨ j ≠ i ∧ l[j]? = some b := by
  by_cases e : j = i
  · subst e
    left
    have hl : j < l.length := by
      have := (List.getElem?_eq_some_iff.1 h).1
      simpa using this
    rw [List.getElem?_set_self hl] at h
    exact ⟨rfl, (Option.some.inj h).symm⟩
  · right
    rw [List.getElem?_set_ne (Ne.symm e)] at h
    exact ⟨e, h⟩
theorem noneB_at (k : Nat) : noneB.getD k false = false := by
  unfold noneB
  match k with
  | 0 | 1 | 2 | 3 | 4 | 5 | 6 => rfl
  | _ + 7 => rfl
/-- A proposer begins anew. -/
theorem PaxI.begin (h : PaxI x vt pv) (i : Nat) (hi : i < 3) : PaxI (x.begin i) vt pv := by
  have hnone : pv (x.top + 1) = none := by
    cases e : pv (x.top + 1) with
    | none => rfl
    | some v => have := (h.pv1 _ (by rw [e]; simp)).2; omega
  have ht := h.top0
  refine ⟨h.n1, by show 0 ≤ x.top + 1; omega, h.lA, by show (x.who.set i _).length = 3; rw [List.length_set]; exact h.lW, by show (x.bb.set i _).length = 3; rw [List.length_set]; exact h.lB, ?_, h.vt1, ?_, ?_, ?_, h.safe, h.said⟩
  · intro k a ha
    obtain ⟨h1, h2⟩ := h.acc k a ha
    exact ⟨by show a.a ≤ x.top + 1; omega, h2⟩
  · intro r hr
    have := h.pv1 r hr
    exact ⟨this.1, by show r ≤ x.top + 1; omega⟩
  · intro j p hp
    rcases set_at hp with ⟨rfl, e⟩ | ⟨hj, hp⟩
    · injection e with e
      subst e
      refine ⟨by show (x.bb.set j _)[j]? = _; rw [List.getElem?_set_self (by rw [h.lB]; exact hi)]; rfl, by show 1 ≤ x.top + 1; omega, Int.le_refl _, rfl, rfl, ⟨rfl, rfl⟩, ?_, ?_, .inl ⟨rfl, hnone⟩, ?_⟩
      · intro k hk
        have := noneB_at k
        rw [show (prNew (x.top + 1) (j : Int) (nodesB x.n)).prom = noneB from rfl, this] at hk
        cases hk
      · intro k hk
        have := noneB_at k
        rw [show (prNew (x.top + 1) (j : Int) (nodesB x.n)).cntd = noneB from rfl, this] at hk
        cases hk
      · intro _
        refine ⟨.inl ⟨rfl, rfl⟩, fun k hk => ?_⟩
        have := noneB_at k
        rw [show (prNew (x.top + 1) (j : Int) (nodesB x.n)).prom = noneB from rfl, this] at hk
        cases hk
    · obtain ⟨h1, h2, h3, h4, h5⟩ := h.who j p hp
      exact ⟨by show (x.bb.set i _)[j]? = _; rw [List.getElem?_set_ne (Ne.symm hj)]; exact h1, h2, by show p.r ≤ x.top + 1; omega, h4, h5⟩
  · intro j k p q hp hq hjk
    rcases set_at hp with ⟨rfl, e⟩ | ⟨hj, hp2⟩
    · injection e with e
      subst e
      rcases set_at hq with ⟨rfl, _⟩ | ⟨_, hq2⟩
      · exact absurd rfl hjk
      · have := (h.who k q hq2).2.2.1
        show x.top + 1 ≠ q.r
        omega
    · rcases set_at hq with ⟨rfl, e⟩ | ⟨_, hq2⟩
      · injection e with e
        subst e
        have := (h.who j p hp2).2.2.1
        show p.r ≠ x.top + 1
        omega
      · exact h.apart j k p q hp2 hq2 hjk
end
section
variable {x : PxS} {vt : Nat → Int → Prop} {pv : Int → Option ByteArray} {p p2 : PrS} {i k : Nat} {a : AcS}
theorem PrI.grow {n : Nat} {acc acc2 : List AcS} (h : PrI n acc vt pv p) (g : ∀ (j : Nat) (a : AcS), acc[j]? = some a → ∃ a2 : AcS, acc2[j]? = some a2 ∧ a.a ≤ a2.a) : PrI n acc2 vt pv p :=
  ⟨h.nodes, h.lens, h.prom, h.cntd, h.st, fun hs => ⟨(h.best hs).1, fun k hk => by
    obtain ⟨a, h1, h2, h3⟩ := (h.best hs).2 k hk
    obtain ⟨a2, h4, h5⟩ := g k a h1
    exact ⟨a2, h4, by omega, h3⟩⟩⟩
theorem grow_set {acc : List AcS} {a2 : AcS} (ha : acc[k]? = some a) (hle : a.a ≤ a2.a) : ∀ (j : Nat) (b : AcS), acc[j]? = some b → ∃ b2 : AcS, (acc.set k a2)[j]? = some b2 ∧ b.a ≤ b2.a := by
  intro j b hb
  by_cases e : j = k
  · subst e
    rw [ha] at hb
    injection hb with hb
    subst hb
    exact ⟨a2, by rw [List.getElem?_set_self (List.getElem?_eq_some_iff.1 ha).1], hle⟩
  · exact ⟨b, by rw [List.getElem?_set_ne (Ne.symm e)]; exact hb, Int.le_refl _⟩
/-- Another state of one proposer. -/
theorem PaxI.setWho (h : PaxI x vt pv) (hp : x.who[i]? = some (some p)) (hr : p2.r = p.r) (hn : p2.n = p.n) (hI : PrI x.n x.acc vt pv p2) : PaxI { x with who := x.who.set i (some p2) } vt pv := by
  refine ⟨h.n1, h.top0, h.lA, by show (x.who.set i _).length = 3; rw [List.length_set]; exact h.lW, h.lB, h.acc, h.vt1, h.pv1, ?_, ?_, h.safe, h.said⟩
  · intro j q hq
    rcases set_at hq with ⟨rfl, e⟩ | ⟨hj, hq2⟩
    · injection e with e
      subst e
      obtain ⟨h1, h2, h3, h4, h5⟩ := h.who j p hp
      exact ⟨by rw [hr, hn]; exact h1, by rw [hr]; exact h2, by rw [hr]; exact h3, by rw [hn]; exact h4, hI⟩
    · exact h.who j q hq2
  · intro j l q s hq hs hjl
    rcases set_at hq with ⟨rfl, e⟩ | ⟨hj, hq2⟩
    · injection e with e
      subst e
      rcases set_at hs with ⟨rfl, _⟩ | ⟨_, hs2⟩
      · exact absurd rfl hjl
      · rw [hr]; exact h.apart j l p s hp hs2 hjl
    · rcases set_at hs with ⟨rfl, e⟩ | ⟨_, hs2⟩
      · injection e with e
        subst e
        rw [hr]; exact h.apart j l q p hq2 hp hjl
      · exact h.apart j l q s hq2 hs2 hjl
/-- An acceptor promises more. -/
theorem PaxI.setAcc (h : PaxI x vt pv) (ha : x.acc[k]? = some a) {r m : Int} (hle : a.a ≤ r) (ht : r ≤ x.top) (hA : AccP r m a.c a.d a.s) : PaxI { x with acc := x.acc.set k ⟨r, m, a.c, a.d, a.s⟩ } vt pv := by
  have g := grow_set (a2 := ⟨r, m, a.c, a.d, a.s⟩) ha hle
  refine ⟨h.n1, h.top0, by show (x.acc.set k _).length = x.n; rw [List.length_set]; exact h.lA, h.lW, h.lB, ?_, h.vt1, h.pv1, ?_, h.apart, ?_, h.said⟩
  · intro j b hb
    rcases set_at hb with ⟨rfl, e⟩ | ⟨_, hb2⟩
    · subst e
      obtain ⟨h1, h2, h3, h4, h5, h6⟩ := h.acc j a ha
      exact ⟨ht, h2, by dsimp only; omega, h4, h5, hA⟩
    · exact h.acc j b hb2
  · intro j q hq
    obtain ⟨h1, h2, h3, h4, h5⟩ := h.who j q hq
    exact ⟨h1, h2, h3, h4, h5.grow g⟩
  · intro r v hv
    obtain ⟨m, Q, q1, q2, q3, q4, q5, q6⟩ := h.safe r v hv
    refine ⟨m, Q, q1, q2, q3, q4, fun k hk => ?_, q6⟩
    obtain ⟨b, b1, b2, b3⟩ := q5 k hk
    obtain ⟨b', b4, b5⟩ := g k b b1
    exact ⟨b', b4, by omega, b3⟩
/-- An acceptor takes. -/
theorem PaxI.vote (h : PaxI x vt pv) (ha : x.acc[k]? = some a) {r m : Int} {v : ByteArray} (hle : a.a ≤ r) (ht : r ≤ x.top) (hr : pv r = some v) (hA : AccP r m r m v) :
    PaxI { x with acc := x.acc.set k ⟨r, m, r, m, v⟩ } (fun j s => vt j s ∨ j = k ∧ s = r) pv := by
  have g := grow_set (a2 := ⟨r, m, r, m, v⟩) ha hle
  have hk : k < x.n := by rw [← h.lA]; exact (List.getElem?_eq_some_iff.1 ha).1
  have h1r := (h.pv1 r (by rw [hr]; simp)).1
  have key : ∀ (j : Nat) (s t : Int), (∃ b, x.acc[j]? = some b ∧ t ≤ b.a) → s < t → (vt j s ∨ j = k ∧ s = r) → vt j s := by
    intro j s t ⟨b, b1, b2⟩ hst hv
    rcases hv with hv | ⟨rfl, rfl⟩
    · exact hv
    · rw [ha] at b1
      injection b1 with b1
      subst b1
      omega
  refine ⟨h.n1, h.top0, by show (x.acc.set k _).length = x.n; rw [List.length_set]; exact h.lA, h.lW, h.lB, ?_, ?_, h.pv1, ?_, h.apart, ?_, ?_⟩
  · intro j b hb
    rcases set_at hb with ⟨rfl, e⟩ | ⟨hj, hb2⟩
    · subst e
      obtain ⟨h1, h2, h3, h4, h5, h6⟩ := h.acc j a ha
      refine ⟨ht, by dsimp only; omega, Int.le_refl _, fun s hs => ?_, .inr ⟨h1r, hr⟩, hA⟩
      rcases hs with hs | ⟨_, rfl⟩
      · have := h4 s hs
        dsimp only
        omega
      · exact Int.le_refl _
    · obtain ⟨h1, h2, h3, h4, h5, h6⟩ := h.acc j b hb2
      exact ⟨h1, h2, h3, fun s hs => hs.elim (h4 s) (fun e => absurd e.1 hj), h5, h6⟩
  · rintro j s (hs | ⟨rfl, rfl⟩)
    · exact h.vt1 j s hs
    · exact ⟨hk, by rw [hr]; simp⟩
  · intro j q hq
    obtain ⟨h1, h2, h3, h4, h5⟩ := h.who j q hq
    have h6 := h5.grow g
    refine ⟨h1, h2, h3, h4, h5.nodes, h5.lens, h5.prom, fun l hl => ⟨(h5.cntd l hl).1, .inl (h5.cntd l hl).2⟩, h5.st, fun hs => ⟨(h5.best hs).1, fun l hl => ?_⟩⟩
    obtain ⟨b, b1, b2, b3⟩ := (h5.best hs).2 l hl
    obtain ⟨b', b4, b5⟩ := g l b b1
    exact ⟨b', b4, by omega, fun s hs1 hs2 => b3 s hs1 (key l s q.r ⟨b, b1, b2⟩ hs1 hs2)⟩
  · intro s w hw
    obtain ⟨m', Q, q1, q2, q3, q4, q5, q6⟩ := h.safe s w hw
    refine ⟨m', Q, q1, q2, q3, q4, fun l hl => ?_, q6⟩
    obtain ⟨b, b1, b2, b3⟩ := q5 l hl
    obtain ⟨b', b4, b5⟩ := g l b b1
    exact ⟨b', b4, by omega, fun s' h1 h2 => b3 s' h1 (key l s' s ⟨b, b1, b2⟩ h1 h2)⟩
  · intro s hs
    obtain ⟨r', h1, V, v1, v2, v3⟩ := h.said s hs
    exact ⟨r', h1, V, v1, fun l hl => ⟨(v2 l hl).1, .inl (v2 l hl).2⟩, v3⟩
/-- A proposer tells its value for the first time. -/
theorem PaxI.value (h : PaxI x vt pv) (hp : x.who[i]? = some (some p)) (hs : p.st = 0) (hm : x.n < 2 * bcnt p.prom) (v own : ByteArray) (hown : own = redB ∨ own = greenB ∨ own = blueB) (hv : v = p.tellV own) :
    PaxI { x with who := x.who.set i (some { p with st := 1, val := v }) } vt (fun r => if r = p.r then some v else pv r) := by
  obtain ⟨w1, w2, w3, w4, w5⟩ := h.who i p hp
  have hnone : pv p.r = none := by
    rcases w5.st with ⟨_, h1⟩ | ⟨h1, _⟩
    · exact h1
    · rcases h1 with h1 | h1 <;> omega
  have keep : ∀ {r : Int} {w : ByteArray}, pv r = some w → (if r = p.r then some v else pv r) = some w := by
    intro r w hw
    rw [if_neg (by rintro rfl; rw [hnone] at hw; cases hw)]
    exact hw
  have keepn : ∀ {r : Int}, pv r ≠ none → (if r = p.r then some v else pv r) ≠ none := by
    intro r hw
    split
    · simp
    · exact hw
  refine ⟨h.n1, h.top0, h.lA, by show (x.who.set i _).length = 3; rw [List.length_set]; exact h.lW, h.lB, ?_, fun j r hj => ⟨(h.vt1 j r hj).1, keepn (h.vt1 j r hj).2⟩, ?_, ?_, ?_, ?_, ?_⟩
  · intro j b hb
    obtain ⟨h1, h2, h3, h4, h5, h6⟩ := h.acc j b hb
    exact ⟨h1, h2, h3, h4, h5.imp id (fun e => ⟨e.1, keep e.2⟩), h6⟩
  · intro r hr
    by_cases e : r = p.r
    · subst e
      exact ⟨w2, w3⟩
    · rw [if_neg e] at hr
      exact h.pv1 r hr
  · intro j q hq
    rcases set_at hq with ⟨rfl, e⟩ | ⟨hj, hq2⟩
    · injection e with e
      subst e
      exact ⟨w1, w2, w3, w4, w5.nodes, w5.lens, w5.prom, w5.cntd, .inr ⟨.inl rfl, if_pos rfl⟩, fun e => by cases e⟩
    · obtain ⟨h1, h2, h3, h4, h5⟩ := h.who j q hq2
      have hne : q.r ≠ p.r := h.apart j i q p hq2 hp hj
      refine ⟨h1, h2, h3, h4, h5.nodes, h5.lens, h5.prom, h5.cntd, ?_, fun hs => ⟨((h5.best hs).1).imp id (fun e => ⟨e.1, e.2.1, keep e.2.2⟩), (h5.best hs).2⟩⟩
      rw [if_neg hne]
      exact h5.st
  · intro j l q s hq hs' hjl
    rcases set_at hq with ⟨rfl, e⟩ | ⟨hj, hq2⟩
    · injection e with e
      subst e
      rcases set_at hs' with ⟨rfl, _⟩ | ⟨_, hs2⟩
      · exact absurd rfl hjl
      · exact h.apart j l p s hp hs2 hjl
    · rcases set_at hs' with ⟨rfl, e⟩ | ⟨_, hs2⟩
      · injection e with e
        subst e
        exact h.apart j l q p hq2 hp hjl
      · exact h.apart j l q s hq2 hs2 hjl
  · intro r w hw
    by_cases e : r = p.r
    · subst e
      rw [if_pos rfl] at hw
      injection hw with hw
      subst hw
      obtain ⟨b1, b2⟩ := w5.best hs
      refine ⟨p.best.c, p.prom, w5.lens.1, w5.prom, hm, ?_, b2, ?_⟩
      · rcases b1 with b1 | b1 <;> omega
      · unfold PrS.tellV at hv
        rcases b1 with b1 | b1
        · rw [if_pos b1] at hv
          exact .inl ⟨b1.1, by rw [hv]; exact hown⟩
        · rw [if_neg (by omega)] at hv
          exact .inr (by have e2 := keep b1.2.2; rw [← hv] at e2; exact e2)
    · rw [if_neg e] at hw
      obtain ⟨m', Q, q1, q2, q3, q4, q5, q6⟩ := h.safe r w hw
      exact ⟨m', Q, q1, q2, q3, q4, q5, q6.imp id keep⟩
  · intro s hs'
    obtain ⟨r', h1, V, v1, v2, v3⟩ := h.said s hs'
    exact ⟨r', keep h1, V, v1, v2, v3⟩
theorem PaxI.say (h : PaxI x vt pv) (hp : x.who[i]? = some (some p)) (hs : p.st = 2) : PaxI { x with said := x.said ++ [p.val] } vt pv := by
  refine ⟨h.n1, h.top0, h.lA, h.lW, h.lB, h.acc, h.vt1, h.pv1, h.who, h.apart, h.safe, ?_⟩
  intro s hs'
  rcases List.mem_append.1 hs' with hs' | hs'
  · exact h.said s hs'
  · obtain rfl := List.mem_singleton.1 hs'
    obtain ⟨w1, w2, w3, w4, w5⟩ := h.who i p hp
    rcases w5.st with ⟨h1, _⟩ | ⟨h1, h2⟩
    · omega
    · rcases h1 with h1 | ⟨_, h1⟩
      · omega
      · exact ⟨p.r, h2, p.cntd, w5.lens.2, w5.cntd, h1⟩
/-- One counts who took. -/
theorem PrI.taken {n : Nat} {acc : List AcS} (h : PrI n acc vt pv p) (hn : n ≤ 7) (hv : vt k p.r) : PrI n acc vt pv (p.taken (k : Int)).1 ∧ (p.taken (k : Int)).1.r = p.r ∧ (p.taken (k : Int)).1.n = p.n ∧ (p.taken (k : Int)).1.val = p.val := by
  unfold PrS.taken
  split
  case isFalse => exact ⟨h, rfl, rfl, rfl⟩
  rename_i hc
  obtain ⟨h1, h2, h3⟩ := hc
  rw [show ((k : Int)).toNat = k from rfl] at h3 ⊢
  have hk : k < 7 ∧ k < n := by
    unfold bhas at h2
    rw [h.nodes] at h2
    simp only [Bool.and_eq_true, decide_eq_true_eq] at h2
    exact (nodesB_at n k).1 h2.2
  have hcnt := bcnt_set h3 (by rw [h.lens.2]; exact hk.1)
  refine ⟨⟨h.nodes, ⟨h.lens.1, by dsimp only; rw [List.length_set]; exact h.lens.2⟩, h.prom, ?_, ?_, ?_⟩, rfl, rfl, rfl⟩
  · intro l hl
    rcases getD_set_b _ _ _ hl with rfl | hl
    · exact ⟨hk, hv⟩
    · exact h.cntd l hl
  · right
    rcases h.st with ⟨e, _⟩ | ⟨h4, h5⟩
    · omega
    · refine ⟨?_, h5⟩
      dsimp only
      rw [hcnt]
      rw [h.nodes, nodesB_cnt n hn]
      split
      · rename_i hh
        exact .inr ⟨rfl, by omega⟩
      · rename_i hh
        rcases h4 with h4 | ⟨h4, h6⟩
        · exact .inl h4
        · exact .inr ⟨h4, by omega⟩
  · intro hs
    exfalso
    dsimp only at hs
    split at hs <;> omega
end
section
variable {x : PxS} {vt : Nat → Int → Prop} {pv : Int → Option ByteArray} {p p2 : PrS} {i k : Nat} {a : AcS}
theorem not_less {r n a b : Int} (h : ¬ LessP r n a b) : a ≤ r := by unfold LessP at h; omega
theorem PaxI.askP (h : PaxI x vt pv) (hp : x.who[i]? = some (some p)) (ha : x.acc[k]? = some a) : PaxI (x.ask i k p a (p.r, p.n)) vt pv := by
  unfold PxS.ask AcS.prep prepT
  by_cases hc : AccP a.a a.b a.c a.d a.s ∧ RightP p.r p.n ∧ ¬ LessP p.r p.n a.a a.b
  · rw [if_pos hc, if_pos rfl]
    obtain ⟨w1, w2, w3, w4, w5⟩ := h.who i p hp
    obtain ⟨a1, a2, a3, a4, a5, a6⟩ := h.acc k a ha
    have hle : a.a ≤ p.r := not_less hc.2.2
    have hA : AccP p.r p.n a.c a.d a.s := by
      obtain ⟨b1, b2, b3, b4, b5⟩ := hc.1
      refine ⟨.inl hc.2.1, ?_, b3, b4, b5⟩
      have := hc.2.2
      unfold LessP at *
      omega
    have h1 := h.setAcc ha hle w3 hA (m := p.n)
    have hk : k < x.n := by rw [← h.lA]; exact (List.getElem?_eq_some_iff.1 ha).1
    have hk7 : k < 7 := by have := h.n1; omega
    refine h1.setWho (p := p) (i := i) hp ?_ ?_ ?_
    · unfold PrS.promise; split <;> rfl
    · unfold PrS.promise; split <;> rfl
    · have w6 : PrI x.n (x.acc.set k ⟨p.r, p.n, a.c, a.d, a.s⟩) vt pv p := w5.grow (grow_set (a2 := ⟨p.r, p.n, a.c, a.d, a.s⟩) ha hle)
      show PrI x.n (x.acc.set k ⟨p.r, p.n, a.c, a.d, a.s⟩) vt pv (p.promise (k : Int) ⟨p.r, p.n, a.c, a.d, a.s⟩).1
      unfold PrS.promise
      split
      case isFalse => exact w6
      rename_i hh
      obtain ⟨g1, g2, g3, _, _, _⟩ := hh
      rw [show ((k : Int)).toNat = k from rfl] at g3 ⊢
      have hnone : pv p.r = none := by
        rcases w5.st with ⟨_, e⟩ | ⟨e, _⟩
        · exact e
        · omega
      have hst : ∀ r, vt k r → r ≠ p.r := fun r hr e => by
        subst e
        exact (h.vt1 k _ hr).2 hnone
      refine ⟨w6.nodes, ⟨by dsimp only; rw [List.length_set]; exact w6.lens.1, w6.lens.2⟩, ?_, w6.cntd, w6.st, fun hs => ⟨?_, ?_⟩⟩
      · intro l hl
        rcases getD_set_b _ _ _ hl with rfl | hl
        · exact ⟨hk7, hk⟩
        · exact w6.prom l hl
      · dsimp only
        split
        · rename_i hl
          have hb := (w6.best g1).1
          have hc0 : 1 ≤ a.c ∧ pv a.c = some a.s := by
            rcases a5 with e | e
            · exfalso
              unfold LessP at hl
              rcases hb with e2 | e2 <;> omega
            · exact e
          refine .inr ⟨hc0.1, ?_, hc0.2⟩
          dsimp only
          have : a.c ≠ p.r := fun e => by rw [e, hnone] at hc0; exact absurd hc0.2 (by simp)
          omega
        · exact (w6.best g1).1
      · intro l hl
        have hge : p.best.c ≤ (if LessP p.best.c p.best.d a.c a.d then (⟨p.r, p.n, a.c, a.d, a.s⟩ : AcS) else p.best).c := by
          split
          · rename_i hl; unfold LessP at hl; dsimp only; omega
          · exact Int.le_refl _
        have hge2 : a.c ≤ (if LessP p.best.c p.best.d a.c a.d then (⟨p.r, p.n, a.c, a.d, a.s⟩ : AcS) else p.best).c := by
          split
          · exact Int.le_refl _
          · rename_i hl; unfold LessP at hl; omega
        rcases getD_set_b _ _ _ hl with rfl | hl
        · refine ⟨⟨p.r, p.n, a.c, a.d, a.s⟩, by rw [List.getElem?_set_self (by rw [h.lA]; exact hk)], Int.le_refl _, fun r _ hr => Int.le_trans (a4 r hr) hge2⟩
        · obtain ⟨b, b1, b2, b3⟩ := (w6.best g1).2 l hl
          exact ⟨b, b1, b2, fun r h1 h2 => Int.le_trans (b3 r h1 h2) hge⟩
  · rw [if_neg hc]
    exact h
theorem ownB_in (i : Nat) : ownB i = redB ∨ ownB i = greenB ∨ ownB i = blueB := by
  unfold ownB
  split
  · exact .inl rfl
  · split
    · exact .inr (.inl rfl)
    · exact .inr (.inr rfl)
/-- What a proposer tells. -/
theorem PaxI.tell1 (h : PaxI x vt pv) (hp : x.who[i]? = some (some p)) : (p.tell (ownB i)).2.2 ≠ 0 ∨ ∃ pv2, PaxI { x with who := x.who.set i (some (p.tell (ownB i)).1) } vt pv2 ∧ pv2 p.r = some (p.tell (ownB i)).2.1 ∧ (p.tell (ownB i)).1.r = p.r ∧ (p.tell (ownB i)).1.n = p.n := by
  obtain ⟨w1, w2, w3, w4, w5⟩ := h.who i p hp
  unfold PrS.tell
  by_cases c0 : p.st = 0
  · rw [if_neg (fun e => e c0)]
    by_cases c1 : 2 * bcnt p.prom ≤ bcnt p.nodes
    · rw [if_pos c1]
      exact .inl (show (12 : Int) ≠ 0 by decide)
    · rw [if_neg c1]
      by_cases c2 : 100000 < (p.tellV (ownB i)).size
      · rw [if_pos c2]
        exact .inl (show (3 : Int) ≠ 0 by decide)
      · rw [if_neg c2]
        rw [w5.nodes, nodesB_cnt _ h.n1.2] at c1
        exact .inr ⟨_, h.value hp c0 (by omega) _ _ (ownB_in i) rfl, if_pos rfl, rfl, rfl⟩
  · rw [if_pos c0]
    right
    refine ⟨pv, ?_, ?_, rfl, rfl⟩
    · exact h.setWho hp rfl rfl w5
    · rcases w5.st with ⟨e, _⟩ | ⟨_, e⟩
      · exact absurd e c0
      · exact e
theorem set_set {α : Type} (l : List α) (i : Nat) (a b : α) : (l.set i a).set i b = l.set i b := List.set_set _
theorem PaxI.end_ (h : PaxI { x with who := x.who.set i (some p) } vt pv) (hi : i < 3) (hl : x.who.length = 3) : PaxI (x.end_ i p) vt pv := by
  unfold PxS.end_
  by_cases hs : p.st = 2
  · rw [if_pos hs]
    exact h.say (i := i) (p := p) (by show (x.who.set i _)[i]? = _; rw [List.getElem?_set_self (by omega)]) hs
  · rw [if_neg hs]
    exact h
theorem PaxI.tellP (h : PaxI x vt pv) (hi : i < 3) (hp : x.who[i]? = some (some p)) (ha : x.acc[k]? = some a) : ∃ vt2 pv2, PaxI (x.tell i k p a (p.r, p.n)) vt2 pv2 := by
  unfold PxS.tell
  obtain ⟨w1, w2, w3, w4, w5⟩ := h.who i p hp
  rcases h.tell1 hp with h0 | ⟨pv2, h1, h2, h3, h4⟩
  · rw [if_pos h0]
    exact ⟨vt, pv, h⟩
  · by_cases h0 : (p.tell (ownB i)).2.2 ≠ 0
    · rw [if_pos h0]
      exact ⟨vt, pv, h⟩
    · rw [if_neg h0]
      generalize (p.tell (ownB i)).1 = p1 at h1 h3 h4 ⊢
      generalize (p.tell (ownB i)).2.1 = v at h2 ⊢
      unfold AcS.take takeT
      by_cases hc : AccP a.a a.b a.c a.d a.s ∧ RightP p.r p.n ∧ ¬ LessP p.r p.n a.a a.b ∧ (v.size : Int) ≤ 100000 ∧ (a.c = p.r ∧ a.d = p.n → a.s.toList = v.toList)
      · rw [if_pos hc, if_pos rfl]
        obtain ⟨c1, c2, c3, c4, c5⟩ := hc
        have hA : AccP p.r p.n p.r p.n v := ⟨.inl c2, by unfold LessP; omega, c4, fun e => by unfold RightP at c2; omega, .inr c2⟩
        have h5 := h1.vote (k := k) (a := a) ha (not_less c3) w3 h2 hA (m := p.n)
        have hg1 : (x.who.set i (some p1))[i]? = some (some p1) := by rw [List.getElem?_set_self (by rw [h.lW]; exact hi)]
        obtain ⟨u1, u2, u3, u4, u5⟩ := h5.who i p1 hg1
        have ht := u5.taken (k := k) h.n1.2 (.inr ⟨rfl, h3⟩)
        have h6 := h5.setWho (i := i) (p := p1) (p2 := (p1.taken (k : Int)).1) hg1 ht.2.1 ht.2.2.1 ht.1
        refine ⟨fun j s => vt j s ∨ j = k ∧ s = p.r, pv2, PaxI.end_ (x := { x with acc := x.acc.set k ⟨p.r, p.n, p.r, p.n, v⟩ }) ?_ hi h.lW⟩
        have e : (x.who.set i (some p1)).set i (some (p1.taken (k : Int)).1) = x.who.set i (some (p1.taken (k : Int)).1) := set_set _ _ _ _
        dsimp only at h6
        rw [e] at h6
        exact h6
      · rw [if_neg hc, if_neg (by simp)]
        exact ⟨vt, pv2, h1.end_ hi h.lW⟩
end
end Go.Proofs.YtnmcknfkmelnbaaDoor.P
