/- An acceptor written and read, by the program. -/
import Derived.Test.YtocgbfcjmgpleaaDoorPx13
import Derived.Test.YtocgbfcjmgpleaaDoorPx8
import Derived.Test.YtocgbfcjmgpleaaDoorPlainP
import Derived.Test.YtocgbfcjmgpleaaDoorPlainG
namespace Go.Proofs.YtocgbfcjmgpleaaDoor.P
open Go.RowKit Go.Proofs.YtocgbfcjmgpleaaDoorW.PrintWords Go.Proofs.YtocgbfcjmgpleaaDoorW.PrintLast Go.Proofs.YtocgbfcjmgpleaaDoorW.PrintMore
set_option linter.unusedSimpArgs false
set_option linter.unusedVariables false
set_option maxRecDepth 100000
theorem wrapU {a : Int} (h0 : 0 ≤ a) (h1 : a < 18446744073709551616) : IntKind.u64.wrap a = a := by
  show a % 18446744073709551616 = a
  omega
def itemsA (a b c d : Int) (s : ByteArray) : List S51 := [⟨3, IntKind.u64.wrap a, ⟨#[]⟩⟩, ⟨1, IntKind.u64.wrap b, ⟨#[]⟩⟩, ⟨3, IntKind.u64.wrap c, ⟨#[]⟩⟩, ⟨1, IntKind.u64.wrap d, ⟨#[]⟩⟩, ⟨4, 0, s⟩]
theorem accP_range {a b c d : Int} {s : ByteArray} (h : AccP a b c d s) : (0 ≤ a ∧ a ≤ 9007199254740991) ∧ (0 ≤ b ∧ b < 7) ∧ (0 ≤ c ∧ c ≤ 9007199254740991) ∧ (0 ≤ d ∧ d < 7) ∧ s.size ≤ 100000 := by
  obtain ⟨h1, _, h3, _, h5⟩ := h
  unfold RightP at h1 h5
  omega
theorem itemsA_of {a b c d : Int} {s : ByteArray} (h : AccP a b c d s) : itemsA a b c d s = [⟨3, a, ⟨#[]⟩⟩, ⟨1, b, ⟨#[]⟩⟩, ⟨3, c, ⟨#[]⟩⟩, ⟨1, d, ⟨#[]⟩⟩, ⟨4, 0, s⟩] := by
  obtain ⟨h1, h2, h3, h4, _⟩ := accP_range h
  unfold itemsA
  rw [wrapU h1.1 (by omega), wrapU h2.1 (by omega), wrapU h3.1 (by omega), wrapU h4.1 (by omega)]
theorem itemsA_wf {a b c d : Int} {s : ByteArray} (h : AccP a b c d s) : ∀ x ∈ itemsA a b c d s, WfI x := by
  rw [itemsA_of h]
  obtain ⟨h1, h2, h3, h4, h5⟩ := accP_range h
  have z : (⟨#[]⟩ : ByteArray).size = 0 := rfl
  intro x hx
  simp only [List.mem_cons, List.not_mem_nil, or_false] at hx
  rcases hx with rfl | rfl | rfl | rfl | rfl <;> (unfold WfI; dsimp only; refine ⟨by omega, by omega, by omega, by omega, by omega⟩)
theorem encOne_long (v : Int) : encOne (⟨3, v, ⟨#[]⟩⟩ : S51) = .ok (beI v 8) := by
  unfold encOne
  dsimp only
  rw [if_neg (by decide), if_pos (by decide), if_pos (by rw [toList_eq]), if_pos (.inl (by decide))]
  rfl
theorem encOne_byte (v : Int) (h0 : 0 ≤ v) (h1 : v < 256) : encOne (⟨1, v, ⟨#[]⟩⟩ : S51) = .ok (beI v 1) := by
  unfold encOne
  dsimp only
  rw [if_neg (by decide), if_pos (by decide), if_pos (by rw [toList_eq]), if_pos (.inr (by show v / 256 ^ 1 = 0; omega))]
  rfl
theorem encOne_text (s : ByteArray) (h : s.size ≤ 100000) : encOne (⟨4, 0, s⟩ : S51) = .ok (beI (s.size : Int) 4 ++ bytesOf s) := by
  unfold encOne
  dsimp only
  rw [if_pos rfl, if_pos rfl, if_neg (by omega)]
theorem itemsA_enc {a b c d : Int} {s : ByteArray} (h : AccP a b c d s) : ∃ m, encAll (itemsA a b c d s) = .ok m := by
  rw [itemsA_of h]
  obtain ⟨h1, h2, h3, h4, h5⟩ := accP_range h
  simp only [encAll, encOne_long, encOne_byte b (by omega) (by omega), encOne_byte d (by omega) (by omega), encOne_text s h5]
  exact ⟨_, rfl⟩
theorem encS_ok5 {l : List S51} {m : List Int} (h : encAll l = .ok m) (hl : l.length ≤ 1000) : encS l = (strOfNums m, 0) := by
  unfold encS
  rw [if_neg (by omega), h]
/-- The program writes an acceptor. -/
theorem aenc_is (a b c d : Int) (s : ByteArray) (k : Nat) (hk : 1012 ≤ k) : acceptor_Encode.f k a b c d s = some (if AccP a b c d s then encS (itemsA a b c d s) else (⟨#[]⟩, 1)) := by
  unfold acceptor_Encode.f
  rw [acc_is]
  simp only [Option.bind_some]
  by_cases h : AccP a b c d s
  · rw [if_pos (by simpa using h), if_pos h]
    simp only [List.length_nil, List.nil_append, List.length_cons, List.length_append]
    rw [if_pos (by decide), if_pos (by decide), if_pos (by decide)]
    have e := encode_is (itemsA a b c d s) (itemsA_wf h) k hk
    have e2 : ([⟨3, IntKind.u64.wrap a, ⟨#[]⟩⟩, ⟨1, IntKind.u64.wrap b, ⟨#[]⟩⟩] ++ [⟨3, IntKind.u64.wrap c, ⟨#[]⟩⟩, ⟨1, IntKind.u64.wrap d, ⟨#[]⟩⟩] ++ [⟨4, 0, s⟩] : List S51) = itemsA a b c d s := rfl
    rw [e2, e]
    rfl
  · rw [if_neg (by simpa using h), if_neg h]
/-- What is read by the acceptor's shape. -/
theorem dec5 (s : ByteArray) (hs : s.size ≤ 1000000000000000) :
    (∃ v0 v1 v2 v3 t e, decodeS [108, 98, 108, 98, 116] s = ([⟨3, v0, ⟨#[]⟩⟩, ⟨1, v1, ⟨#[]⟩⟩, ⟨3, v2, ⟨#[]⟩⟩, ⟨1, v3, ⟨#[]⟩⟩, ⟨4, 0, t⟩], 0) ∧ encAll [⟨3, v0, ⟨#[]⟩⟩, ⟨1, v1, ⟨#[]⟩⟩, ⟨3, v2, ⟨#[]⟩⟩, ⟨1, v3, ⟨#[]⟩⟩, ⟨4, 0, t⟩] = .ok e ∧ s = strOfNums e ∧ 0 ≤ v0 ∧ (0 ≤ v1 ∧ v1 < 256) ∧ 0 ≤ v2 ∧ (0 ≤ v3 ∧ v3 < 256)) ∨
      (∃ l e, e ≠ 0 ∧ decodeS [108, 98, 108, 98, 116] s = (l, e)) := by
  by_cases h : (decodeS [108, 98, 108, 98, 116] s).2 = 0
  · left
    have hp : parseS [108, 98, 108, 98, 116] = some ([3, 1, 3, 1, 4], []) := by decide
    obtain ⟨l, hd⟩ : ∃ l, decodeS [108, 98, 108, 98, 116] s = (l, 0) := ⟨_, Prod.ext rfl h⟩
    have hd2 := hd
    unfold decodeS at hd2
    rw [hp] at hd2
    obtain ⟨m, e, hm, h1, h2, h3, _, j, h5⟩ := enc_dec [] (by simp) 1000 [3, 1, 3, 1, 4] [] s l (by intro x hx; simp only [List.mem_cons, List.not_mem_nil, or_false] at hx; omega) hs hd2
    rw [List.nil_append] at hm
    subst hm
    have h6 : l.map (·.f0) = [3, 1, 3, 1, 4] := by
      rw [h5]
      have : (List.replicate j ([] : List Int)).flatten = [] := by simp
      rw [this, List.append_nil]
    obtain ⟨x0, x1, x2, x3, x4, rfl⟩ : ∃ x0 x1 x2 x3 x4, l = [x0, x1, x2, x3, x4] := by
      have hlen : l.length = 5 := by have := congrArg List.length h6; simpa using this
      rcases l with _ | ⟨x0, _ | ⟨x1, _ | ⟨x2, _ | ⟨x3, _ | ⟨x4, _ | ⟨x5, l⟩⟩⟩⟩⟩⟩
      all_goals first | exact ⟨_, _, _, _, _, rfl⟩ | (simp only [List.length_cons, List.length_nil] at hlen; omega)
    · simp only [List.map_cons, List.map_nil, List.cons.injEq, and_true] at h6
      obtain ⟨k0, k1, k2, k3, k4⟩ := h6
      have num : ∀ x : S51, ∀ a, encOne x = .ok a → x.f0 ≠ 4 → x.f2 = ⟨#[]⟩ ∧ (x.f0 = 1 → x.f1 / 256 = 0) := by
        intro x a hx h4
        unfold encOne at hx
        rw [if_neg h4] at hx
        split at hx
        · split at hx
          · rename_i g1 g2
            split at hx
            · rename_i g3
              refine ⟨ba_nil g2, fun e1 => ?_⟩
              rcases g3 with g3 | g3
              · rw [e1] at g3; exact absurd g3 (by decide)
              · rw [e1] at g3; simpa [widthI] using g3
            · cases hx
          · cases hx
        · cases hx
      have text : ∀ x : S51, ∀ a, encOne x = .ok a → x.f0 = 4 → x.f1 = 0 := by
        intro x a hx h4
        unfold encOne at hx
        rw [if_pos h4] at hx
        split at hx
        · assumption
        · cases hx
      have all : ∀ x ∈ [x0, x1, x2, x3, x4], ∃ a, encOne x = .ok a := by
        have key : ∀ (l : List S51) (e : List Int), encAll l = .ok e → ∀ x ∈ l, ∃ a, encOne x = .ok a := by
          intro l
          induction l with
          | nil => intro e _ x hx; cases hx
          | cons y ys ih =>
            intro e he x hx
            simp only [encAll] at he
            cases g1 : encOne y with
            | error e1 => rw [g1] at he; cases he
            | ok a =>
              rw [g1] at he
              cases g2 : encAll ys with
              | error e1 => rw [g2] at he; cases he
              | ok b =>
                rcases List.mem_cons.1 hx with rfl | hx
                · exact ⟨a, g1⟩
                · exact ih b g2 x hx
        exact key _ _ h1
      obtain ⟨a0, g0⟩ := all x0 (by simp)
      obtain ⟨a1, g1⟩ := all x1 (by simp)
      obtain ⟨a2, g2⟩ := all x2 (by simp)
      obtain ⟨a3, g3⟩ := all x3 (by simp)
      obtain ⟨a4, g4⟩ := all x4 (by simp)
      have q0 := num x0 a0 g0 (by rw [k0]; decide)
      have q1 := num x1 a1 g1 (by rw [k1]; decide)
      have q2 := num x2 a2 g2 (by rw [k2]; decide)
      have q3 := num x3 a3 g3 (by rw [k3]; decide)
      have q4 := text x4 a4 g4 k4
      have w0 := (h3 x0 (by simp)).1
      have w1 := (h3 x1 (by simp)).1
      have w2 := (h3 x2 (by simp)).1
      have w3 := (h3 x3 (by simp)).1
      have r1 := q1.2 k1
      have r3 := q3.2 k3
      obtain ⟨u0, v0, t0⟩ := x0
      obtain ⟨u1, v1, t1⟩ := x1
      obtain ⟨u2, v2, t2⟩ := x2
      obtain ⟨u3, v3, t3⟩ := x3
      obtain ⟨u4, v4, t4⟩ := x4
      dsimp only at k0 k1 k2 k3 k4 q0 q1 q2 q3 q4 w0 w1 w2 w3 r1 r3
      obtain ⟨rfl, -⟩ := q0
      obtain ⟨rfl, -⟩ := q1
      obtain ⟨rfl, -⟩ := q2
      obtain ⟨rfl, -⟩ := q3
      subst k0 k1 k2 k3 k4 q4
      exact ⟨v0, v1, v2, v3, t4, e, hd, h1, ba_eq (by rw [h2, son_data]), w0, ⟨w1, by omega⟩, w2, ⟨w3, by omega⟩⟩
  · exact .inr ⟨_, _, h, rfl⟩
/-- What is read of bytes as an acceptor. -/
def adecS (s : ByteArray) : Int × Int × Int × Int × ByteArray × Int := match decodeS [108, 98, 108, 98, 116] s with
  | ([x0, x1, x2, x3, x4], 0) => if x0.f1 ≤ 9007199254740991 ∧ x2.f1 ≤ 9007199254740991 ∧ AccP x0.f1 x1.f1 x2.f1 x3.f1 x4.f2 then (x0.f1, x1.f1, x2.f1, x3.f1, x4.f2, 0) else (0, 0, 0, 0, ⟨#[]⟩, 10)
  | (_, e) => (0, 0, 0, 0, ⟨#[]⟩, if e = 0 then 10 else e)
theorem adecS_ok {s : ByteArray} {v0 v1 v2 v3 : Int} {t : ByteArray} (h : decodeS [108, 98, 108, 98, 116] s = ([⟨3, v0, ⟨#[]⟩⟩, ⟨1, v1, ⟨#[]⟩⟩, ⟨3, v2, ⟨#[]⟩⟩, ⟨1, v3, ⟨#[]⟩⟩, ⟨4, 0, t⟩], 0)) : adecS s = if v0 ≤ 9007199254740991 ∧ v2 ≤ 9007199254740991 ∧ AccP v0 v1 v2 v3 t then (v0, v1, v2, v3, t, 0) else (0, 0, 0, 0, ⟨#[]⟩, 10) := by
  unfold adecS
  rw [h]
  rfl
theorem adecS_bad {s : ByteArray} {l : List S51} {e : Int} (he : e ≠ 0) (h : decodeS [108, 98, 108, 98, 116] s = (l, e)) : adecS s = (0, 0, 0, 0, ⟨#[]⟩, e) := by
  unfold adecS
  rw [h]
  split
  · rename_i h2
    exact absurd (congrArg Prod.snd h2) he
  · rename_i h2
    obtain ⟨-, rfl⟩ := Prod.mk.inj h2
    rw [if_neg he]
theorem adec_is (s : ByteArray) (hs : s.size ≤ 1000000000000000) (k : Nat) (hk : 6008 ≤ k) : acceptor_Decode.f k s = some (adecS s) := by
  unfold acceptor_Decode.f
  rw [decode_is _ s (by decide) hs k hk]
  simp only [Option.bind_some]
  rcases dec5 s hs with ⟨v0, v1, v2, v3, t, e, hd, h1, h2, w0, w1, w2, w3⟩ | ⟨l, e, he, hd⟩
  · rw [hd, adecS_ok hd]
    dsimp only
    rw [if_pos rfl, if_pos (by simp), if_pos (by simp)]
    have r0 : rd_T51 [(⟨3, v0, ⟨#[]⟩⟩ : S51), ⟨1, v1, ⟨#[]⟩⟩, ⟨3, v2, ⟨#[]⟩⟩, ⟨1, v3, ⟨#[]⟩⟩, ⟨4, 0, t⟩] 0 = ⟨3, v0, ⟨#[]⟩⟩ := rfl
    have r1 : rd_T51 [(⟨3, v0, ⟨#[]⟩⟩ : S51), ⟨1, v1, ⟨#[]⟩⟩, ⟨3, v2, ⟨#[]⟩⟩, ⟨1, v3, ⟨#[]⟩⟩, ⟨4, 0, t⟩] 1 = ⟨1, v1, ⟨#[]⟩⟩ := rfl
    have r2 : rd_T51 [(⟨3, v0, ⟨#[]⟩⟩ : S51), ⟨1, v1, ⟨#[]⟩⟩, ⟨3, v2, ⟨#[]⟩⟩, ⟨1, v3, ⟨#[]⟩⟩, ⟨4, 0, t⟩] 2 = ⟨3, v2, ⟨#[]⟩⟩ := rfl
    have r3 : rd_T51 [(⟨3, v0, ⟨#[]⟩⟩ : S51), ⟨1, v1, ⟨#[]⟩⟩, ⟨3, v2, ⟨#[]⟩⟩, ⟨1, v3, ⟨#[]⟩⟩, ⟨4, 0, t⟩] 3 = ⟨1, v3, ⟨#[]⟩⟩ := rfl
    have r4 : rd_T51 [(⟨3, v0, ⟨#[]⟩⟩ : S51), ⟨1, v1, ⟨#[]⟩⟩, ⟨3, v2, ⟨#[]⟩⟩, ⟨1, v3, ⟨#[]⟩⟩, ⟨4, 0, t⟩] 4 = ⟨4, 0, t⟩ := rfl
    rw [r0, r1, r2, r3, r4]
    dsimp only
    by_cases g : v0 ≤ 9007199254740991 ∧ v2 ≤ 9007199254740991
    · rw [if_neg (by unfold mx; split <;> omega), if_pos (by simp), if_pos (by simp), if_pos (by simp), wrap64_id (by omega) (by omega), wrap64_id (by omega) (by omega), wrap64_id (by omega) (by omega), wrap64_id (by omega) (by omega), acc_is]
      simp only [Option.bind_some]
      by_cases ha : AccP v0 v1 v2 v3 t
      · rw [if_pos (by simpa using ha), if_pos ⟨g.1, g.2, ha⟩]
      · rw [if_neg (by simpa using ha), if_neg (fun x => ha x.2.2)]
    · rw [if_pos (by unfold mx; split <;> omega), if_neg (fun x => g ⟨x.1, x.2.1⟩)]
  · rw [hd, adecS_bad he hd]
    dsimp only
    rw [if_neg he]
/-- An acceptor that is written is read as it was. -/
theorem adec_enc {a b c d : Int} {s : ByteArray} (h : AccP a b c d s) {m : List Int} (hm : encAll (itemsA a b c d s) = .ok m) : adecS (strOfNums m) = (a, b, c, d, s, 0) := by
  have hd := dec_enc [] [] (itemsA a b c d s) m 1000 [] [] (strOfNums m) (itemsA_wf h) hm (show 5 ≤ 1000 by decide) (by rw [son_data, List.append_nil])
  have hd2 : decodeS [108, 98, 108, 98, 116] (strOfNums m) = (itemsA a b c d s, 0) := by
    unfold decodeS
    rw [show parseS [108, 98, 108, 98, 116] = some ([3, 1, 3, 1, 4], []) by decide]
    dsimp only
    rw [show ((itemsA a b c d s).map (·.f0) ++ [] : List Int) = [3, 1, 3, 1, 4] from rfl, List.nil_append] at hd
    rw [hd, show 1000 - (itemsA a b c d s).length = 994 + 1 from rfl]
    simp only [decS, nextK]
    rw [if_pos (by rw [toList_eq])]
  rw [itemsA_of h] at hd2
  have r := accP_range h
  rw [adecS_ok hd2, if_pos ⟨by omega, by omega, h⟩]
/-- What is read as an acceptor is written as it stood. -/
theorem aenc_dec (s : ByteArray) (hs : s.size ≤ 1000000000000000) (h : (adecS s).2.2.2.2.2 = 0) :
    ∃ a b c d t m, adecS s = (a, b, c, d, t, 0) ∧ AccP a b c d t ∧ encAll (itemsA a b c d t) = .ok m ∧ s = strOfNums m := by
  rcases dec5 s hs with ⟨v0, v1, v2, v3, t, e, hd, h1, h2, w0, w1, w2, w3⟩ | ⟨l, e, he, hd⟩
  · have ha := adecS_ok hd
    by_cases g : v0 ≤ 9007199254740991 ∧ v2 ≤ 9007199254740991 ∧ AccP v0 v1 v2 v3 t
    · rw [if_pos g] at ha
      refine ⟨v0, v1, v2, v3, t, e, ha, g.2.2, ?_, h2⟩
      rw [itemsA_of g.2.2]
      exact h1
    · rw [if_neg g] at ha
      rw [ha] at h
      exact absurd h (by decide)
  · rw [adecS_bad he hd] at h
    exact absurd h he
theorem encAll_len : ∀ (l : List S51) (m : List Int), encAll l = .ok m → m.length ≤ l.length * 100004 := by
  intro l
  induction l with
  | nil => intro m h; cases h; simp
  | cons x xs ih =>
    intro m h
    simp only [encAll] at h
    cases h1 : encOne x with
    | error e => rw [h1] at h; cases h
    | ok a =>
      rw [h1] at h
      cases h2 : encAll xs with
      | error e => rw [h2] at h; cases h
      | ok b =>
        rw [h2] at h
        cases h
        have i2 := ih b h2
        have := encOne_len h1
        rw [List.length_append, List.length_cons]
        omega
theorem son_size5 (m : List Int) : (strOfNums m).size = m.length := by rw [← data_len, son_data, toU_length]
theorem itemsA_size {a b c d : Int} {s : ByteArray} {m : List Int} (hm : encAll (itemsA a b c d s) = .ok m) : (strOfNums m).size ≤ 1000000 := by
  have := encAll_len _ _ hm
  have e : (itemsA a b c d s).length = 5 := rfl
  rw [son_size5]
  omega
theorem adecS_zero (s : ByteArray) (hs : s.size ≤ 1000000000000000) (h : (adecS s).2.2.2.2.2 ≠ 0) : ∃ e, e ≠ 0 ∧ adecS s = (0, 0, 0, 0, ⟨#[]⟩, e) := by
  rcases dec5 s hs with ⟨v0, v1, v2, v3, t, e, hd, h1, h2, w0, w1, w2, w3⟩ | ⟨l, e, he, hd⟩
  · have ha := adecS_ok hd
    by_cases g : v0 ≤ 9007199254740991 ∧ v2 ≤ 9007199254740991 ∧ AccP v0 v1 v2 v3 t
    · rw [if_pos g] at ha
      rw [ha] at h
      exact absurd rfl h
    · rw [if_neg g] at ha
      exact ⟨10, by decide, ha⟩
  · exact ⟨e, he, adecS_bad he hd⟩
end Go.Proofs.YtocgbfcjmgpleaaDoor.P
