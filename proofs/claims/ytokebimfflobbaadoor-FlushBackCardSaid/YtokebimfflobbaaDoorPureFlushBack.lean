/- The law FlushBack, over plain functions. -/
import Derived.Test.YtokebimfflobbaaDoorKinds
import Derived.Test.YtokebimfflobbaaDoorPlainFF
import Derived.Test.YtokebimfflobbaaDoorPlainG
import Derived.Test.YtokebimfflobbaaDoorPlainVE
import Derived.Test.YtokebimfflobbaaDoorPx10
namespace Go.Proofs.YtokebimfflobbaaDoor.P
open Go.RowKit Go.Proofs.YtokebimfflobbaaDoorW.PrintWords
set_option linter.unusedVariables false
set_option linter.unusedSimpArgs false
set_option maxRecDepth 100000
def carillonlaw19_FlushBack.Pure : Prop := ∀ (x0 : S35) (x1 : List ByteArray) (x2 : ByteArray), wf35 x0 → (∀ n ∈ lens35 x0, n ≤ 140737488351232) → (fun l : List ByteArray => ∀ a ∈ l, (fun s : ByteArray => s.size ≤ maxLen) a) x1 → (∀ n ∈ (fun l : List ByteArray => l.length * 16 :: l.flatMap (fun s : ByteArray => [s.size])) x1, n ≤ 140737488351232) → x2.size ≤ 140737488351232 → ∃ k, carillonlaw19_FlushBack.f k (x0.f0) (x0.f1) x1 x2 = some true
theorem texts_of : ∀ (l : List S58) (e : List Int), encAll l = .ok e → (∀ x ∈ l, x.f0 = 4) → l = tItems (l.map (·.f2))
  | [], _ => fun _ _ => rfl
  | x :: r, e => by
    intro he hk
    simp only [encAll] at he
    cases g1 : encOne x with
    | error e1 => rw [g1] at he; cases he
    | ok a =>
      rw [g1] at he
      cases g2 : encAll r with
      | error e1 => rw [g2] at he; cases he
      | ok c =>
        have ih := texts_of r c g2 (fun z hz => hk z (List.mem_cons_of_mem _ hz))
        have k4 := hk x (List.mem_cons_self ..)
        have k1 := text_parts x a g1 k4
        obtain ⟨x0, x1, x2⟩ := x
        dsimp only at k4 k1
        subst k4 k1
        show _ :: r = _ :: tItems (r.map (·.f2))
        rw [← ih]
theorem fback (s : ByteArray) (hs : s.size ≤ 1000000000000000) (k : Nat) (hk : 9000 ≤ k) :
    (∃ num ms log, flush_Decode.f k s = some (num, ms, log, 0) ∧ ms.length ≤ 7 ∧ log.length ≤ 990 ∧ (∀ x ∈ log, x.size ≤ 140737488351232) ∧ (fencS num ms log = (s, 0) ∨ (fencS num ms log).2 = 3)) ∨ (∃ e, e ≠ 0 ∧ flush_Decode.f k s = some (0, [], [], e)) := by
  unfold flush_Decode.f
  rw [decode_is _ s (by decide) hs k (by omega)]
  simp only [Option.bind_some]
  by_cases h : (decodeS [116, 42, 116] s).2 = 0
  case neg => exact .inr ⟨_, h, by rw [if_neg h]⟩
  obtain ⟨l, hd⟩ : ∃ l, decodeS [116, 42, 116] s = (l, 0) := ⟨_, Prod.ext rfl h⟩
  rw [hd]
  dsimp only
  rw [if_pos rfl]
  unfold decodeS at hd
  rw [show parseS [116, 42, 116] = some ([4], [4]) by decide] at hd
  obtain ⟨m, e, hm, h1, h2, h3, h4, j, h5⟩ := enc_dec [4] (by intro x hx; simp only [List.mem_cons, List.not_mem_nil, or_false] at hx; omega) 1000 [4] [] s l (by intro x hx; simp only [List.mem_cons, List.not_mem_nil, or_false] at hx; omega) hs hd
  rw [List.nil_append] at hm
  subst hm
  have hk4 : ∀ x ∈ l, x.f0 = 4 := by
    intro x hx
    have hx' : x.f0 ∈ l.map (·.f0) := List.mem_map.2 ⟨x, hx, rfl⟩
    rw [h5] at hx'
    rcases List.mem_append.1 hx' with hx' | hx'
    · simpa using hx'
    · obtain ⟨q, hq, hq'⟩ := List.mem_flatten.1 hx'
      obtain rfl := List.eq_of_mem_replicate hq
      simpa using hq'
  have hl := texts_of l e h1 hk4
  have hw : ∀ x ∈ l.map (·.f2), x.size ≤ 140737488351232 := by
    intro x hx
    obtain ⟨y, hy, rfl⟩ := List.mem_map.1 hx
    exact (h3 y hy).2.2.2.2
  cases hlog : l.map (·.f2) with
  | nil =>
    have : l = [] := List.map_eq_nil_iff.1 hlog
    subst this
    simp at h5
  | cons hd' log =>
    rw [hlog] at hl hw
    subst hl
    rw [tItems_len, List.length_cons] at h4
    rw [if_pos (by rw [tItems_len, List.length_cons]; omega), show (rd_T58 (tItems (hd' :: log)) 0).f2 = hd' from rfl]
    have hhd := hw hd' (List.mem_cons_self ..)
    rcases vback hd' (by omega) k (by omega) with ⟨num, ms, ev, v1, v2, v3, v4⟩ | ⟨ev, v1, v2⟩
    · rw [v1]
      simp only [Option.bind_some]
      rw [if_pos trivial]
      by_cases hc : ((tItems (hd' :: log)).length : Int) > 991
      · exact .inr ⟨10, by decide, by rw [if_pos hc]⟩
      · rw [tItems_len, List.length_cons] at hc
        have hll : log.length ≤ 990 := by omega
        obtain ⟨_, _, _, _, v5⟩ := viewP_parts v2
        refine .inl ⟨num, ms, log, ?_, v5, hll, fun x hx => hw x (List.mem_cons_of_mem _ hx), ?_⟩
        · rw [if_neg (by rw [tItems_len, List.length_cons]; omega), if_pos (by rw [tItems_len, List.length_cons]; omega)]
          exact fdec_loop num ms log (by omega) log.length 0 k (by omega) (by omega)
        · have hvl : (vItems num ms).length ≤ 1000 := by
            unfold vItems
            rw [List.length_cons, mItems_len]
            omega
          unfold fencS
          rw [if_pos v2, if_neg (by omega), encS_ok2 v3 hvl]
          dsimp only
          rw [← v4]
          by_cases hz : 100000 < hd'.size + 4 + szs log
          · rw [if_pos hz]; exact .inr rfl
          · rw [if_neg hz, encS_ok2 h1 (by rw [tItems_len, List.length_cons]; omega)]
            exact .inl (by rw [show s = strOfNums e from ba_eq (by rw [h2, son_data])])
    · rw [v2]
      simp only [Option.bind_some]
      exact .inr ⟨10, by decide, by rw [if_neg v1]⟩
theorem fback_tail (s : ByteArray) (hs : s.size ≤ 140737488351232) (k : Nat) (hk : 9100 ≤ k) : ((flush_Decode.f k s).bind fun bt340 => (if bt340.2.2.2 = 0 then ((flush_Encode.f k bt340.1 bt340.2.1 bt340.2.2.1).bind fun bt349 => (if true = true then (if bt349.2 = 0 then (if bt349.1.toList = s.toList then (some true) else (some (bt349.2 == 3))) else (some (bt349.2 == 3))) else (some false))) else (if true = true then (if bt340.1 = 0 then (some ((bt340.2.2.1.length : Int) == 0)) else (some false)) else (some false)))) = some true := by
  rcases fback s (by omega) k (by omega) with ⟨num, ms, log, h1, h2, h3, h4, h5⟩ | ⟨e, he, h1⟩
  · rw [h1]
    simp only [Option.bind_some]
    rw [if_pos trivial, fenc_is num ms log (by omega) (by omega) h4 k (by omega)]
    simp only [Option.bind_some]
    rcases h5 with h5 | h5
    · rw [h5]; simp
    · rw [if_pos trivial, if_neg (by rw [h5]; decide), h5]; rfl
  · rw [h1]
    simp only [Option.bind_some]
    rw [if_neg he]
    simp
theorem fback_all (num : Int) (ms : List S47) (hms : ms.length ≤ 4611686018427387904) (log : List ByteArray) (hl : log.length ≤ 4611686018427387904) (hs : ∀ x ∈ log, x.size ≤ 140737488351232) (s : ByteArray) (hz : s.size ≤ 140737488351232) (k : Nat) (hk : ms.length + log.length + 9200 < k) :
    carillonlaw19_FlushBack.f k num ms log s = some true := by
  have tail := fback_tail s hz k (by omega)
  simp only [if_true] at tail
  unfold carillonlaw19_FlushBack.f
  rw [show carillonlaw19_examples.f = some true from rfl, fenc_is num ms log hms hl hs k (by omega)]
  simp only [Option.bind_some, if_true]
  obtain ⟨t, g, hf⟩ : ∃ t g, fencS num ms log = (t, g) := ⟨_, _, rfl⟩
  rw [hf]
  dsimp only
  by_cases hg : g = 0
  · subst hg
    rw [if_pos rfl, fdec_enc hf hs k (by omega)]
    simp only [Option.bind_some]
    rw [views_is num ms hms k (by omega), texts_is log hl k (by omega)]
    simp only [Option.bind_some, if_true]
    exact tail
  · rw [if_neg hg]
    exact tail
theorem FlushBack : carillonlaw19_FlushBack.Pure := by
  intro x0 log s hw0 hn0 _ hnl hz
  obtain ⟨num, ms⟩ := x0
  have hms : ms.length ≤ 4611686018427387904 := by
    have := hn0 (ms.length * 16) (by simp [lens35])
    omega
  have hl := hnl _ (List.mem_cons_self ..)
  have hs : ∀ x ∈ log, x.size ≤ 140737488351232 := fun x hx => hnl x.size (List.mem_cons_of_mem _ (List.mem_flatMap.2 ⟨x, hx, by simp⟩))
  exact ⟨ms.length + log.length + 9201, fback_all num ms hms log (by omega) hs s hz _ (by omega)⟩
end Go.Proofs.YtokebimfflobbaaDoor.P
