/- The program's records: it tells what the plain reading tells. -/
import Derived.Test.YtmjgifhgodgghaaDoorPx27
import Derived.Test.YtmjgifhgodgghaaDoorPx4
import Derived.Test.YtmjgifhgodgghaaDoorPx9
import Derived.Test.YtmjgifhgodgghaaDoorPlainB
namespace Go.Proofs.YtmjgifhgodgghaaDoor.P
open Go.RowKit Go.Proofs.YtmjgifhgodgghaaDoorW.PrintWords Go.Proofs.YtmjgifhgodgghaaDoorW.PrintLast Go.Proofs.YtmjgifhgodgghaaDoorW.PrintMore
set_option linter.unusedSimpArgs false
set_option linter.unusedVariables false
set_option maxRecDepth 100000
theorem sright_is (a : Int) (p : ByteArray) (c : Int) (q v : ByteArray) : segment_Right.f a p c q v = some (decide (RecP ⟨a, p, c, q, v⟩)) := by
  have h1 : mn a c ≥ 0 ↔ 0 ≤ a ∧ 0 ≤ c := by unfold mn; split <;> omega
  have h2 : mx a c ≤ 9007199254740991 ↔ a ≤ 9007199254740991 ∧ c ≤ 9007199254740991 := by unfold mx; split <;> omega
  unfold segment_Right.f
  by_cases g1 : mn a c ≥ 0
  case neg => rw [if_neg g1, decide_eq_false (by intro h; unfold RecP at h; dsimp only at h; exact g1 (h1.2 ⟨h.1.1, h.2.1.1⟩))]
  rw [if_pos g1]
  by_cases g2 : mx a c ≤ 9007199254740991
  case neg => rw [if_neg g2, decide_eq_false (by intro h; unfold RecP at h; dsimp only at h; exact g2 (h2.2 ⟨h.1.2, h.2.1.2⟩))]
  rw [if_pos g2]
  by_cases g3 : (p.size : Int) ≤ 20
  case neg => rw [if_neg g3, decide_eq_false (by intro h; unfold RecP at h; dsimp only at h; omega)]
  rw [if_pos g3]
  by_cases g4 : (q.size : Int) ≤ 100
  case neg => rw [if_neg g4, decide_eq_false (by intro h; unfold RecP at h; dsimp only at h; omega)]
  rw [if_pos g4]
  congr 1
  refine decide_eq_decide.2 ?_
  unfold RecP
  dsimp only
  rw [h1] at g1
  rw [h2] at g2
  omega
theorem sone_is (r : SR) (k : Nat) (hk : 1012 ≤ k) : segment_One.f k r.f0 r.f1 r.f2 r.f3 r.f4 = some (if RecP r then (frame (recB r), 0) else (⟨#[]⟩, 1)) := by
  unfold segment_One.f
  rw [sright_is]
  simp only [Option.bind_some]
  by_cases h : RecP r
  · have hr := h
    unfold RecP at hr
    rw [if_pos (by simpa using h), if_pos h, wrapU64 (by omega) (by omega), wrapU64 (by omega) (by omega)]
    rw [show codec_Encode.f k [(⟨3, r.f0, ⟨#[]⟩⟩ : SI), ⟨4, 0, r.f1⟩, ⟨3, r.f2, ⟨#[]⟩⟩, ⟨4, 0, r.f3⟩, ⟨4, 0, r.f4⟩] = some (recB r, 0) from (encode_is (rItems r) (rItems_wf h) k hk).trans (by rw [rItems_encS h])]
    simp only [Option.bind_some, if_true]
    have := recB_le h
    rw [frame_is, if_neg (by omega)]
    rfl
  · rw [if_neg (by simpa using h), if_neg h]
theorem srecord_is (b : ByteArray) (hb : b.size ≤ 1000000000000000) (k : Nat) (hk : 6010 ≤ k) : segment_record.f k b = some ((recV b).1.f0, (recV b).1.f1, (recV b).1.f2, (recV b).1.f3, (recV b).1.f4, (recV b).2) := by
  unfold segment_record.f
  rw [decode_is _ b (by decide) hb k (by omega)]
  simp only [Option.bind_some]
  obtain ⟨k, rfl⟩ : ∃ m, k = m + 1 := ⟨k - 1, by omega⟩
  have hbad : ∀ l, segment_record.j0 (k + 1) l true = some (0, ⟨#[]⟩, 0, ⟨#[]⟩, ⟨#[]⟩, 10) := fun l => by
    simp only [segment_record.j0]
    rw [if_pos trivial]
  by_cases h : (decodeS [108, 116, 108, 116, 116] b).2 = 0
  case neg =>
    unfold recV
    rw [if_neg h, hbad, if_neg (fun hc => h hc.1)]
    rfl
  obtain ⟨l, hd⟩ : ∃ l, decodeS [108, 116, 108, 116, 116] b = (l, 0) := ⟨_, Prod.ext rfl h⟩
  obtain ⟨v0, t1, v2, t3, t4, rfl, p0, p1, q0, q1, _⟩ := rec_items hb hd
  have hrv : recV b = if RecP ⟨v0, t1, v2, t3, t4⟩ then (⟨v0, t1, v2, t3, t4⟩, 0) else (zR, 10) := by
    unfold recV
    rw [hd]
    dsimp only
    by_cases hr : RecP ⟨v0, t1, v2, t3, t4⟩
    · rw [if_pos hr, if_pos ⟨rfl, hr⟩]; rfl
    · rw [if_neg hr, if_neg (fun hc => hr hc.2)]
  rw [hd, hrv]
  dsimp only
  rw [if_pos rfl, if_pos (by simp), show rd_T60 [(⟨3, v0, ⟨#[]⟩⟩ : SI), ⟨4, 0, t1⟩, ⟨3, v2, ⟨#[]⟩⟩, ⟨4, 0, t3⟩, ⟨4, 0, t4⟩] 0 = ⟨3, v0, ⟨#[]⟩⟩ from rfl, show rd_T60 [(⟨3, v0, ⟨#[]⟩⟩ : SI), ⟨4, 0, t1⟩, ⟨3, v2, ⟨#[]⟩⟩, ⟨4, 0, t3⟩, ⟨4, 0, t4⟩] 2 = ⟨3, v2, ⟨#[]⟩⟩ from rfl]
  dsimp only
  by_cases c0 : v0 > 9007199254740991
  · rw [if_pos c0, hbad, if_neg (by intro h; unfold RecP at h; dsimp only at h; omega)]
    rfl
  rw [if_neg c0, if_pos (by simp)]
  by_cases c2 : v2 > 9007199254740991
  · rw [decide_eq_true c2, hbad, if_neg (by intro h; unfold RecP at h; dsimp only at h; omega)]
    rfl
  rw [decide_eq_false c2]
  simp only [segment_record.j0]
  rw [if_neg (by decide), if_pos (by simp), if_pos (by simp), if_pos (by simp), if_pos (by simp), if_pos (by simp)]
  rw [show rd_T60 [(⟨3, v0, ⟨#[]⟩⟩ : SI), ⟨4, 0, t1⟩, ⟨3, v2, ⟨#[]⟩⟩, ⟨4, 0, t3⟩, ⟨4, 0, t4⟩] 0 = ⟨3, v0, ⟨#[]⟩⟩ from rfl, show rd_T60 [(⟨3, v0, ⟨#[]⟩⟩ : SI), ⟨4, 0, t1⟩, ⟨3, v2, ⟨#[]⟩⟩, ⟨4, 0, t3⟩, ⟨4, 0, t4⟩] 1 = ⟨4, 0, t1⟩ from rfl, show rd_T60 [(⟨3, v0, ⟨#[]⟩⟩ : SI), ⟨4, 0, t1⟩, ⟨3, v2, ⟨#[]⟩⟩, ⟨4, 0, t3⟩, ⟨4, 0, t4⟩] 2 = ⟨3, v2, ⟨#[]⟩⟩ from rfl, show rd_T60 [(⟨3, v0, ⟨#[]⟩⟩ : SI), ⟨4, 0, t1⟩, ⟨3, v2, ⟨#[]⟩⟩, ⟨4, 0, t3⟩, ⟨4, 0, t4⟩] 3 = ⟨4, 0, t3⟩ from rfl, show rd_T60 [(⟨3, v0, ⟨#[]⟩⟩ : SI), ⟨4, 0, t1⟩, ⟨3, v2, ⟨#[]⟩⟩, ⟨4, 0, t3⟩, ⟨4, 0, t4⟩] 4 = ⟨4, 0, t4⟩ from rfl]
  dsimp only
  rw [show wrap64 v0 = v0 by unfold wrap64; omega, show wrap64 v2 = v2 by unfold wrap64; omega, sright_is]
  simp only [Option.bind_some]
  by_cases hr : RecP ⟨v0, t1, v2, t3, t4⟩
  · rw [if_pos (by simpa using hr), if_pos hr]
  · rw [if_neg (by simpa using hr), if_neg hr]
    rfl
/-- The reader's next record. -/
def nextT (s : ByteArray) (u : Nat) (least err : Int) : Option ((SR × Nat) ⊕ Int) → Int × ByteArray × Int × ByteArray × ByteArray × Bool × ByteArray × Int × Int × Int
  | none => (0, ⟨#[]⟩, 0, ⟨#[]⟩, ⟨#[]⟩, false, s, (u : Int), least, err)
  | some (.inr e) => (0, ⟨#[]⟩, 0, ⟨#[]⟩, ⟨#[]⟩, false, s, (u : Int), least, e)
  | some (.inl (x, z)) => (x.f0, x.f1, x.f2, x.f3, x.f4, true, s, ((u + z : Nat) : Int), x.f0 + 1, err)
theorem snext_is (s : ByteArray) (hs : s.size ≤ 1000000000000000) (u : Nat) (hu : u ≤ s.size) (least err : Int) (k : Nat) (hk : 6020 ≤ k) : segment_reader_next.f k s (u : Int) least err = some (nextT s u least err (nextV s least u)) := by
  unfold segment_reader_next.f nextV
  by_cases h0 : u = s.size
  · rw [if_pos (by omega), if_pos h0]
    rfl
  rw [if_neg (by omega), if_neg h0, if_pos (by omega), if_pos (by omega), show ((u : Int)).toNat = u from rfl, take_is _ (by rw [ByteArray.size_extract]; omega)]
  simp only [Option.bind_some]
  by_cases h1 : (takeV (s.extract u s.size)).2.2 = 0
  case neg => rw [if_neg h1, if_neg h1]; rfl
  rw [if_pos h1, if_pos h1]
  obtain ⟨g2, g3⟩ : (takeV (s.extract u s.size)).2.1 = (((takeV (s.extract u s.size)).1.size + 8 : Nat) : Int) ∧ (takeV (s.extract u s.size)).1.size + 8 ≤ (s.extract u s.size).size := by
    rcases take_tells (s.extract u s.size) with ⟨_, g2, g3⟩ | ⟨g1, _⟩
    · exact ⟨g2, g3⟩
    · exact absurd h1 g1
  rw [ByteArray.size_extract] at g3
  rw [srecord_is _ (by omega) k (by omega), g2]
  simp only [Option.bind_some]
  obtain ⟨k, rfl⟩ : ∃ m, k = m + 2 := ⟨k - 2, by omega⟩
  generalize (takeV (s.extract u s.size)).1 = b at *
  rcases recV_or b with ⟨r, hr, hp⟩ | hr
  · rw [hr]
    dsimp only
    have hp' := hp
    unfold RecP at hp'
    rw [if_pos rfl, if_pos rfl]
    simp only [segment_reader_next.j0, segment_reader_next.j1]
    by_cases h2 : r.f0 < least
    · rw [if_pos (by simpa using h2), if_pos h2, if_neg (by decide)]
      rfl
    · rw [if_neg (by simpa using h2), if_neg h2, if_pos trivial, show wrap64 ((u : Int) + ((b.size + 8 : Nat) : Int)) = ((u + (b.size + 8) : Nat) : Int) by unfold wrap64; omega, show wrap64 (r.f0 + 1) = r.f0 + 1 by unfold wrap64; omega]
      rfl
  · rw [hr]
    dsimp only
    rw [if_neg (by decide), if_neg (by decide)]
    simp only [segment_reader_next.j0, segment_reader_next.j1]
    rw [if_neg (by decide), if_neg (by decide)]
    rfl
theorem sscan_loop (s : ByteArray) (hs : s.size ≤ 1000000000000000) : ∀ (n : Nat) (u k : Nat) (least : Int) (acc : List SR), u ≤ s.size → s.size - u < n → n + 6100 < k → 8 * acc.length + (s.size - u) < 17592186044416 →
    segment_Scan.l0 k acc s (u : Int) least 0 = some (acc ++ (scanV s n least u).1.map (·.1), (((scanV s n least u).2.1 : Nat) : Int), (scanV s n least u).2.2)
  | 0, u, k, least, acc => by intro _ h; omega
  | n + 1, u, k, least, acc => by
    intro hu hn hk ha
    obtain ⟨k, rfl⟩ : ∃ m, k = m + 1 := ⟨k - 1, by omega⟩
    simp only [segment_Scan.l0]
    rw [snext_is s hs u hu least 0 k (by omega)]
    simp only [Option.bind_some, scanV]
    cases hx : nextV s least u with
    | none => simp [nextT]
    | some v =>
      cases v with
      | inr e => simp [nextT]
      | inl p =>
        obtain ⟨x, z⟩ := p
        obtain ⟨_, _, h8, hz, _⟩ := nextV_inl hu hx
        simp only [nextT]
        rw [if_pos trivial, if_pos (by omega), sscan_loop s hs n (u + z) k (x.f0 + 1) _ hz (by omega) (by omega) (by rw [List.length_append]; simp; omega)]
        simp
theorem sscan_is (s : ByteArray) (base : Int) (hs : s.size < 17592186044416) (k : Nat) (hk : s.size + 6200 < k) : segment_Scan.f k base s = some ((scanV s (s.size + 1) base 0).1.map (·.1), (((scanV s (s.size + 1) base 0).2.1 : Nat) : Int), (scanV s (s.size + 1) base 0).2.2) := by
  unfold segment_Scan.f
  have := sscan_loop s (by omega) (s.size + 1) 0 k base [] (Nat.zero_le _) (by omega) (by omega) (by simp; omega)
  rw [List.nil_append] at this
  exact this
/-! The index. -/
abbrev SE := S44
def idxV (ev : Nat) : Nat → List (SR × Nat) → List SE
  | _, [] => []
  | i, p :: r => (if i % ev = 0 then [⟨p.1.f0, (p.2 : Int)⟩] else []) ++ idxV ev (i + 1) r
theorem tmod_nat (i : Nat) (ev : Nat) : Int.tmod (i : Int) (ev : Int) = ((i % ev : Nat) : Int) := (Int.ofNat_tmod i ev).symm
theorem sindex_loop (s : ByteArray) (hs : s.size ≤ 1000000000000000) (ev : Nat) (he : 1 ≤ ev) : ∀ (n : Nat) (u k i : Nat) (least : Int) (acc : List SE), u ≤ s.size → s.size - u < n → n + 6100 < k → i ≤ u → acc.length ≤ i → 8 * acc.length + (s.size - u) < 17592186044416 →
    segment_Index.l0 k (ev : Int) acc (i : Int) s (u : Int) least 0 = some (acc ++ idxV ev i (scanV s n least u).1, 0)
  | 0, u, k, i, least, acc => by intro _ h; omega
  | n + 1, u, k, i, least, acc => by
    intro hu hn hk hi ha hb
    obtain ⟨k, rfl⟩ : ∃ m, k = m + 1 := ⟨k - 1, by omega⟩
    have ew : wrap64 ((i : Int) + 1) = ((i + 1 : Nat) : Int) := by unfold wrap64; omega
    simp only [segment_Index.l0]
    rw [snext_is s hs u hu least 0 k (by omega)]
    simp only [Option.bind_some, scanV]
    cases hx : nextV s least u with
    | none => simp [nextT, idxV]
    | some v =>
      cases v with
      | inr e => simp [nextT, idxV]
      | inl p =>
        obtain ⟨x, z⟩ := p
        obtain ⟨_, _, h8, hz, _⟩ := nextV_inl hu hx
        simp only [nextT, idxV]
        rw [if_pos trivial, if_neg (by omega), tmod_nat, ew]
        by_cases hm : i % ev = 0
        · rw [if_pos (by omega), if_pos (by omega), if_pos hm, sindex_loop s hs ev he n (u + z) k (i + 1) (x.f0 + 1) _ hz (by omega) (by omega) (by omega) (by rw [List.length_append]; simp; omega) (by rw [List.length_append]; simp; omega)]
          simp
        · rw [if_neg (by omega), if_neg hm, sindex_loop s hs ev he n (u + z) k (i + 1) (x.f0 + 1) _ hz (by omega) (by omega) (by omega) (by omega) (by omega)]
          simp
theorem sindex_is (s : ByteArray) (base : Int) (hs : s.size < 17592186044416) (ev : Int) (k : Nat) (hk : s.size + 6200 < k) : segment_Index.f k base s ev = some (if ev < 1 then ([], 1) else (idxV ev.toNat 0 (scanV s (s.size + 1) base 0).1, 0)) := by
  unfold segment_Index.f
  by_cases h : ev < 1
  · rw [if_pos h, if_pos h]
  · rw [if_neg h, if_neg h]
    obtain ⟨e, rfl⟩ : ∃ e : Nat, ev = (e : Int) := ⟨ev.toNat, by omega⟩
    have := sindex_loop s (by omega) e (by omega) (s.size + 1) 0 k 0 base [] (Nat.zero_le _) (by omega) (by omega) (Nat.le_refl _) (by simp) (by simp; omega)
    rw [List.nil_append] at this
    exact this
/-! From an offset on. -/
def pickV (off : Int) (most : Nat) (l : List (SR × Nat)) : List SR := ((l.map (·.1)).filter fun r => decide (off ≤ r.f0)).take most
theorem sfrom_loop (s : ByteArray) (hs : s.size ≤ 1000000000000000) (off most : Int) : ∀ (n : Nat) (u k : Nat) (least : Int) (acc : List SR), u ≤ s.size → s.size - u < n → n + 6100 < k → 8 * acc.length + (s.size - u) < 17592186044416 →
    segment_From.l0 k off most acc s (u : Int) least 0 = some (acc ++ pickV off (most - acc.length).toNat (scanV s n least u).1)
  | 0, u, k, least, acc => by intro _ h; omega
  | n + 1, u, k, least, acc => by
    intro hu hn hk ha
    obtain ⟨k, rfl⟩ : ∃ m, k = m + 1 := ⟨k - 1, by omega⟩
    simp only [segment_From.l0]
    by_cases hm : (acc.length : Int) < most
    case neg =>
      rw [if_neg hm, show (most - (acc.length : Int)).toNat = 0 by omega]
      simp [pickV]
    rw [if_pos hm, snext_is s hs u hu least 0 k (by omega)]
    simp only [Option.bind_some, scanV]
    cases hx : nextV s least u with
    | none => simp [nextT, pickV]
    | some v =>
      cases v with
      | inr e => simp [nextT, pickV]
      | inl p =>
        obtain ⟨x, z⟩ := p
        obtain ⟨_, _, h8, hz, _⟩ := nextV_inl hu hx
        rw [show nextT s u least 0 (some (.inl (x, z))) = (x.f0, x.f1, x.f2, x.f3, x.f4, true, s, ((u + z : Nat) : Int), x.f0 + 1, 0) from rfl]
        dsimp only
        first | rw [if_pos rfl] | rw [if_pos trivial]
        by_cases ho : x.f0 ≥ off
        · rw [if_pos ho, if_pos (by omega), sfrom_loop s hs off most n (u + z) k (x.f0 + 1) _ hz (by omega) (by omega) (by rw [List.length_append]; simp; omega)]
          have e : (most - (acc.length : Int)).toNat = (most - ((acc ++ [x]).length : Int)).toNat + 1 := by rw [List.length_append]; simp; omega
          unfold pickV
          rw [e, List.map_cons, List.filter_cons_of_pos (by simpa using ho), List.take_succ_cons, List.append_assoc]
          rfl
        · rw [if_neg ho, sfrom_loop s hs off most n (u + z) k (x.f0 + 1) _ hz (by omega) (by omega) (by omega)]
          unfold pickV
          rw [List.map_cons, List.filter_cons_of_neg (by simpa using ho)]
theorem srch_spec (p : Nat → Bool) (J : Nat) (hp : ∀ a b, a ≤ b → b < J → p a = true → p b = true) : ∀ (n i j : Nat), i ≤ j → j ≤ J → j - i < n → (∀ a, a < i → p a = false) → (∀ a, j ≤ a → a < J → p a = true) →
    (∀ a, a < srchS p n i j → p a = false) ∧ (∀ a, srchS p n i j ≤ a → a < J → p a = true)
  | 0, i, j => by intro _ _ h; omega
  | n + 1, i, j => by
    intro hij hj hn h1 h2
    simp only [srchS]
    by_cases c : i < j
    · rw [if_pos c]
      by_cases d : p ((i + j) / 2) = true
      · rw [if_pos d]
        exact srch_spec p J hp n i ((i + j) / 2) (by omega) (by omega) (by omega) h1 (fun a ha hb => hp _ a ha hb d)
      · rw [if_neg d]
        refine srch_spec p J hp n ((i + j) / 2 + 1) j (by omega) hj (by omega) (fun a ha => ?_) h2
        by_cases e : p a = true
        · exact absurd (hp a _ (by omega) (by omega) e) d
        · simpa using e
    · rw [if_neg c]
      have : i = j := by omega
      subst this
      exact ⟨h1, h2⟩
def risesE : Int → List SE → Prop
  | _, [] => True
  | a, x :: r => a ≤ x.f0 ∧ risesE (x.f0 + 1) r
theorem risesE_ge : ∀ {l : List SE} {a : Int}, risesE a l → ∀ x ∈ l, a ≤ x.f0
  | [], _, _ => fun x hx => by cases hx
  | y :: r, a, h => by
    intro x hx
    rcases List.mem_cons.1 hx with rfl | hx
    · exact h.1
    · have := risesE_ge h.2 x hx
      have := h.1
      omega
theorem risesE_lt : ∀ {l : List SE} {a : Int}, risesE a l → ∀ (i j : Nat) (hi : i < l.length) (hj : j < l.length), i < j → l[i].f0 < l[j].f0
  | [], _, _ => fun i j hi => absurd hi (by simp)
  | y :: r, a, h => by
    intro i j hi hj hij
    obtain ⟨j, rfl⟩ : ∃ m, j = m + 1 := ⟨j - 1, by omega⟩
    cases i with
    | zero =>
      have := risesE_ge h.2 (r[j]'(by simpa using hj)) (List.getElem_mem _)
      simp only [List.getElem_cons_zero, List.getElem_cons_succ]
      omega
    | succ i =>
      simp only [List.getElem_cons_succ]
      exact risesE_lt h.2 i j (by simpa using hi) (by simpa using hj) (by omega)
theorem rdE (l : List SE) (i : Nat) (h : i < l.length) : rd_T44 l (i : Int) = l[i] := by
  unfold rd_T44
  rw [show ((i : Int)).toNat = i from rfl, List.getD_eq_getElem?_getD, List.getElem?_eq_getElem h]
  rfl
/-- The place of the last entry that isn't beyond an offset. -/
def findV : List SE → Int → Int → Int
  | [], _, b => b
  | x :: r, off, b => findV r off (if x.f0 ≤ off then x.f1 else b)
theorem findV_none : ∀ (l : List SE) (off b : Int), (∀ x ∈ l, off < x.f0) → findV l off b = b
  | [], _, _ => fun _ => rfl
  | x :: r, off, b => by
    intro h
    have := h x (List.mem_cons_self ..)
    show findV r off (if x.f0 ≤ off then x.f1 else b) = b
    rw [if_neg (by omega)]
    exact findV_none r off b (fun y hy => h y (List.mem_cons_of_mem _ hy))
theorem findV_cut : ∀ (l : List SE) (off b : Int) (k : Nat), (∀ (i : Nat) (hi : i < l.length), i < k → l[i].f0 ≤ off) → (∀ (i : Nat) (hi : i < l.length), k ≤ i → off < l[i].f0) → k ≤ l.length → findV l off b = if k = 0 then b else (l.getD (k - 1) ⟨0, 0⟩).f1
  | [], off, b, k => by
    intro _ _ h
    have : k = 0 := by simpa using h
    subst this
    rfl
  | x :: r, off, b, k => by
    intro h1 h2 hk
    show findV r off (if x.f0 ≤ off then x.f1 else b) = _
    cases k with
    | zero =>
      have := h2 0 (by simp) (Nat.le_refl _)
      rw [if_neg (by simpa using this), if_pos rfl]
      exact findV_none r off b (fun y hy => by
        obtain ⟨i, hi, rfl⟩ := List.getElem_of_mem hy
        exact h2 (i + 1) (by simpa using hi) (by omega))
    | succ k =>
      have := h1 0 (by simp) (by omega)
      rw [if_pos (by simpa using this), if_neg (by omega)]
      rw [findV_cut r off x.f1 k (fun i hi hlt => h1 (i + 1) (by simpa using hi) (by omega)) (fun i hi hge => h2 (i + 1) (by simpa using hi) (by omega)) (by simpa using hk)]
      cases k with
      | zero => rfl
      | succ k => rfl
theorem sfind_is (l : List SE) (a off : Int) (hl : risesE a l) (hn : l.length ≤ 1000000000000000) : segment_Find.f l off = some (findV l off 0) := by
  unfold segment_Find.f
  rw [if_pos hn]
  have hg : ∀ (i : Nat) (hi : i < l.length), gtE l off i = decide (off < l[i].f0) := fun i hi => by unfold gtE; rw [rdE l i hi]
  obtain ⟨h1, h2⟩ := srch_spec (gtE l off) l.length (fun x y hxy hy hx => by
    rw [hg x (by omega), decide_eq_true_eq] at hx
    rw [hg y hy, decide_eq_true_eq]
    by_cases e : x = y
    · subst e; exact hx
    · have := risesE_lt hl x y (by omega) hy (by omega)
      omega) (l.length + 1) 0 l.length (Nat.zero_le _) (Nat.le_refl _) (by omega) (fun a ha => absurd ha (by omega)) (fun a ha hb => absurd hb (by omega))
  obtain ⟨_, h3⟩ := srchS_le (gtE l off) (l.length + 1) 0 l.length (Nat.zero_le _)
  generalize srchS (gtE l off) (l.length + 1) 0 l.length = k at *
  rw [findV_cut l off 0 k (fun i hi hlt => by
      have := h1 i hlt
      rw [hg i hi, decide_eq_false_iff_not] at this
      omega) (fun i hi hge => by
      have := h2 i hge hi
      rw [hg i hi, decide_eq_true_eq] at this
      exact this) h3]
  by_cases hk : k = 0
  · rw [if_pos hk, if_pos hk]
  · rw [if_neg hk, if_neg hk]
    rfl
/-- The index of records rises as they do. -/
theorem idxV_rises (ev : Nat) : ∀ (l : List (SR × Nat)) (i : Nat) (a : Int), risesR a (l.map (·.1)) → risesE a (idxV ev i l)
  | [], i, a => fun _ => trivial
  | p :: r, i, a => by
    intro h
    have h2 : risesR (p.1.f0 + 1) (r.map (·.1)) := h.2.2
    have hge : a ≤ p.1.f0 := h.2.1
    simp only [idxV]
    by_cases hm : i % ev = 0
    · rw [if_pos hm]
      exact ⟨hge, idxV_rises ev r (i + 1) (p.1.f0 + 1) h2⟩
    · rw [if_neg hm, List.nil_append]
      exact idxV_rises ev r (i + 1) a (risesR_mono (by omega) h2)
theorem idxV_len (ev : Nat) : ∀ (l : List (SR × Nat)) (i : Nat), (idxV ev i l).length ≤ l.length
  | [], i => Nat.le_refl _
  | p :: r, i => by
    have := idxV_len ev r (i + 1)
    simp only [idxV]
    rw [List.length_append, List.length_cons]
    by_cases hm : i % ev = 0
    · rw [if_pos hm]; simp; omega
    · rw [if_neg hm]; simp; omega
/-- Where the search leads to: the beginning, or a record whose offset isn't beyond the one asked for. -/
theorem findV_idx (ev : Nat) (off : Int) : ∀ (l : List (SR × Nat)) (i : Nat) (b : Int), findV (idxV ev i l) off b = b ∨ ∃ p y q, l = p ++ y :: q ∧ y.1.f0 ≤ off ∧ findV (idxV ev i l) off b = (y.2 : Int)
  | [], i, b => .inl rfl
  | x :: r, i, b => by
    simp only [idxV]
    have key : ∀ b', (findV (idxV ev (i + 1) r) off b' = b' ∨ ∃ p y q, r = p ++ y :: q ∧ y.1.f0 ≤ off ∧ findV (idxV ev (i + 1) r) off b' = (y.2 : Int)) := fun b' => findV_idx ev off r (i + 1) b'
    by_cases hm : i % ev = 0
    · rw [if_pos hm]
      show findV (idxV ev (i + 1) r) off (if x.1.f0 ≤ off then (x.2 : Int) else b) = b ∨ _
      by_cases ho : x.1.f0 ≤ off
      · rw [if_pos ho]
        rcases key (x.2 : Int) with h | ⟨p, y, q, h1, h2, h3⟩
        · refine .inr ⟨[], x, r, rfl, ho, ?_⟩
          show findV (idxV ev (i + 1) r) off (if x.1.f0 ≤ off then (x.2 : Int) else b) = _
          rw [if_pos ho]; exact h
        · refine .inr ⟨x :: p, y, q, by rw [h1]; rfl, h2, ?_⟩
          show findV (idxV ev (i + 1) r) off (if x.1.f0 ≤ off then (x.2 : Int) else b) = _
          rw [if_pos ho]; exact h3
      · rw [if_neg ho]
        rcases key b with h | ⟨p, y, q, h1, h2, h3⟩
        · exact .inl h
        · refine .inr ⟨x :: p, y, q, by rw [h1]; rfl, h2, ?_⟩
          show findV (idxV ev (i + 1) r) off (if x.1.f0 ≤ off then (x.2 : Int) else b) = _
          rw [if_neg ho]; exact h3
    · rw [if_neg hm, List.nil_append]
      rcases key b with h | ⟨p, y, q, h1, h2, h3⟩
      · exact .inl h
      · exact .inr ⟨x :: p, y, q, by rw [h1]; rfl, h2, h3⟩
theorem filter_ahead (off : Int) : ∀ (p : List SR) (y : SR) (q : List SR) (a : Int), risesR a (p ++ y :: q) → y.f0 ≤ off → (p ++ y :: q).filter (fun r => decide (off ≤ r.f0)) = (y :: q).filter (fun r => decide (off ≤ r.f0))
  | [], y, q, a => fun _ _ => rfl
  | x :: p, y, q, a => by
    intro h hy
    have h2 : risesR (x.f0 + 1) (p ++ y :: q) := h.2.2
    have := (risesR_ge h2 y (List.mem_append_right _ (List.mem_cons_self ..))).1
    rw [List.cons_append, List.filter_cons_of_neg (by simp; omega)]
    exact filter_ahead off p y q _ h2 hy
/-- From, by an index of the records, or by none. -/
theorem sfrom_is (s : ByteArray) (base off most : Int) (hs : s.size < 17592186044416) (ix : List SE) (hix : ix = [] ∨ ∃ ev, ix = idxV ev 0 (scanV s (s.size + 1) base 0).1) (k : Nat) (hk : s.size + 6200 < k) :
    segment_From.f k base s ix off most = some (pickV off most.toNat (scanV s (s.size + 1) base 0).1) := by
  obtain ⟨hr, hu, hlen⟩ := scanV_rises s (s.size + 1) base 0 (Nat.zero_le _)
  have hrise : risesE base ix := by
    rcases hix with rfl | ⟨ev, rfl⟩
    · exact trivial
    · exact idxV_rises ev _ 0 base hr
  have hil : ix.length ≤ 1000000000000000 := by
    rcases hix with rfl | ⟨ev, rfl⟩
    · simp
    · have := idxV_len ev (scanV s (s.size + 1) base 0).1 0
      omega
  unfold segment_From.f
  rw [sfind_is ix base off hrise hil]
  simp only [Option.bind_some]
  have main : ∀ (u : Nat), u ≤ s.size → segment_From.l0 k off most [] s (u : Int) base 0 = some (pickV off most.toNat (scanV s (s.size + 1) base u).1) := by
    intro u hu
    have := sfrom_loop s (by omega) off most (s.size + 1) u k base [] hu (by omega) (by omega) (by simp; omega)
    rw [List.nil_append] at this
    rw [this]
    simp
  have hcase : findV ix off 0 = 0 ∨ ∃ p y q, (scanV s (s.size + 1) base 0).1 = p ++ y :: q ∧ y.1.f0 ≤ off ∧ findV ix off 0 = (y.2 : Int) := by
    rcases hix with rfl | ⟨ev, rfl⟩
    · exact .inl rfl
    · exact findV_idx ev off _ 0 0
  rcases hcase with h | ⟨p, y, q, h1, h2, h3⟩
  · rw [h, if_neg (by omega), if_neg (by omega)]
    exact main 0 (Nat.zero_le _)
  · obtain ⟨e, g1, g2, g3⟩ := scanV_suffix s base (s.size + 1) base 0 p q y (Nat.zero_le _) (by omega) (Int.le_refl _) h1
    rw [h3, if_neg (by omega), if_neg (by omega), main y.2 g3, g1]
    congr 1
    unfold pickV
    rw [h1, List.map_append, List.map_cons]
    rw [h1, List.map_append, List.map_cons] at hr
    rw [filter_ahead off _ _ _ _ hr h2]
end Go.Proofs.YtmjgifhgodgghaaDoor.P
