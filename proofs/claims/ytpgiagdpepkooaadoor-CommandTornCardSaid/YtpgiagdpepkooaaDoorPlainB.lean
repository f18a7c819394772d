/- What is read of a command's bytes, and of a client's. -/
import Derived.Test.YtpgiagdpepkooaaDoorPx8
import Derived.Test.YtpgiagdpepkooaaDoorPx9
import Derived.Test.YtpgiagdpepkooaaDoorPlainA
import Derived.Test.YtpgiagdpepkooaaDoorPlainP
namespace Go.Proofs.YtpgiagdpepkooaaDoor.P
open Go.RowKit Go.Proofs.YtpgiagdpepkooaaDoorW.PrintWords Go.Proofs.YtpgiagdpepkooaaDoorW.PrintLast Go.Proofs.YtpgiagdpepkooaaDoorW.PrintMore
set_option linter.unusedSimpArgs false
set_option linter.unusedVariables false
set_option maxRecDepth 100000
def tupC (c : CM) (e : Int) : Int × ByteArray × ByteArray × Int × ByteArray × ByteArray × Int × Int × Int × Int := (c.kind, c.topic, c.name, c.seq, c.key, c.value, c.n, c.node, c.ask, e)
def zC : CM := ⟨0, ⟨#[]⟩, ⟨#[]⟩, 0, ⟨#[]⟩, ⟨#[]⟩, 0, 0, 0⟩
abbrev Lb : List UInt8 := [98, 116, 116, 108, 116, 116, 108, 98, 108]
theorem parse_b : parseS Lb = some ([1, 4, 4, 3, 4, 4, 3, 1, 3], []) := by decide
abbrev itemsC (a : Int) (t n : ByteArray) (s : Int) (y v : ByteArray) (m d q : Int) : List SI := [⟨1, a, ⟨#[]⟩⟩, ⟨4, 0, t⟩, ⟨4, 0, n⟩, ⟨3, s, ⟨#[]⟩⟩, ⟨4, 0, y⟩, ⟨4, 0, v⟩, ⟨3, m, ⟨#[]⟩⟩, ⟨1, d, ⟨#[]⟩⟩, ⟨3, q, ⟨#[]⟩⟩]
theorem cmd_items {b : ByteArray} (hb : b.size ≤ 1000000000000000) {l : List SI} (h : decodeS Lb b = (l, 0)) :
    ∃ a t n s y v m d q, l = itemsC a t n s y v m d q ∧ (0 ≤ a ∧ a < 256) ∧ (0 ≤ s ∧ s < 18446744073709551616) ∧ (0 ≤ m ∧ m < 18446744073709551616) ∧ (0 ≤ d ∧ d < 256) ∧ (0 ≤ q ∧ q < 18446744073709551616) ∧ y.size ≤ 100000 ∧ v.size ≤ 100000 ∧ ∃ e, encAll l = .ok e ∧ b = strOfNums e := by
  obtain ⟨e, h1, h2, h3, h4, h5⟩ := dec_fixed parse_b hb h
  have hea := encAll_each l e h1
  obtain ⟨x0, x1, x2, x3, x4, x5, x6, x7, x8, rfl⟩ : ∃ x0 x1 x2 x3 x4 x5 x6 x7 x8, l = [x0, x1, x2, x3, x4, x5, x6, x7, x8] := by
    have hlen : l.length = 9 := by have := congrArg List.length h4; simpa using this
    rcases l with _ | ⟨x0, _ | ⟨x1, _ | ⟨x2, _ | ⟨x3, _ | ⟨x4, _ | ⟨x5, _ | ⟨x6, _ | ⟨x7, _ | ⟨x8, _ | ⟨x9, l⟩⟩⟩⟩⟩⟩⟩⟩⟩⟩
    all_goals first | exact ⟨_, _, _, _, _, _, _, _, _, rfl⟩ | (simp only [List.length_cons, List.length_nil] at hlen; omega)
  simp only [List.map_cons, List.map_nil, List.cons.injEq, and_true] at h4
  obtain ⟨k0, k1, k2, k3, k4, k5, k6, k7, k8⟩ := h4
  obtain ⟨a0, e0⟩ := hea x0 (by simp)
  obtain ⟨a1, e1⟩ := hea x1 (by simp)
  obtain ⟨a2, e2⟩ := hea x2 (by simp)
  obtain ⟨a3, e3⟩ := hea x3 (by simp)
  obtain ⟨a4, e4⟩ := hea x4 (by simp)
  obtain ⟨a5, e5⟩ := hea x5 (by simp)
  obtain ⟨a6, e6⟩ := hea x6 (by simp)
  obtain ⟨a7, e7⟩ := hea x7 (by simp)
  obtain ⟨a8, e8⟩ := hea x8 (by simp)
  obtain ⟨v0, rfl, p0, p1⟩ := item1 e0 (h3 x0 (by simp)) k0
  obtain ⟨t1, rfl, _⟩ := item4 e1 k1
  obtain ⟨t2, rfl, _⟩ := item4 e2 k2
  obtain ⟨v3, rfl, p2, p3⟩ := item3 e3 (h3 x3 (by simp)) k3
  obtain ⟨t4, rfl, z4⟩ := item4 e4 k4
  obtain ⟨t5, rfl, z5⟩ := item4 e5 k5
  obtain ⟨v6, rfl, p4, p5⟩ := item3 e6 (h3 x6 (by simp)) k6
  obtain ⟨v7, rfl, p6, p7⟩ := item1 e7 (h3 x7 (by simp)) k7
  obtain ⟨v8, rfl, p8, p9⟩ := item3 e8 (h3 x8 (by simp)) k8
  exact ⟨v0, t1, t2, v3, t4, t5, v6, v7, v8, rfl, ⟨p0, p1⟩, ⟨p2, p3⟩, ⟨p4, p5⟩, ⟨p6, p7⟩, ⟨p8, p9⟩, z4, z5, e, h1, h2⟩
def cmOf (l : List SI) : CM := ⟨(l.getD 0 z57).f1, (l.getD 1 z57).f2, (l.getD 2 z57).f2, (l.getD 3 z57).f1, (l.getD 4 z57).f2, (l.getD 5 z57).f2, (l.getD 6 z57).f1 - 1, (l.getD 7 z57).f1, (l.getD 8 z57).f1⟩
/-- What is read of a body. -/
def cmdV (b : ByteArray) : CM × Int := if (decodeS Lb b).2 = 0 then (if rightB (cmOf (decodeS Lb b).1) = true then (cmOf (decodeS Lb b).1, 0) else (zC, 10)) else (zC, (decodeS Lb b).2)
theorem cmdV_enc {c : CM} (h : rightB c = true) : cmdV (cText c) = (c, 0) := by
  have ho := right_ok h
  have hd : decodeS Lb (cText c) = (cItems c, 0) := dec_written parse_b (cItems c) rfl (citems_enc ho) (citems_wf ho) (by rw [citems_len]; omega)
  have he : cmOf (cItems c) = c := by
    show (⟨c.kind, c.topic, c.name, c.seq, c.key, c.value, c.n + 1 - 1, c.node, c.ask⟩ : CM) = c
    rw [Int.add_sub_cancel]
  unfold cmdV
  rw [hd]
  dsimp only
  rw [he, if_pos rfl, if_pos h]
theorem cmdV_back {b : ByteArray} {c : CM} (hb : b.size ≤ 1000000000000000) (h : cmdV b = (c, 0)) : rightB c = true ∧ b = cText c := by
  unfold cmdV at h
  by_cases hc : (decodeS Lb b).2 = 0
  · rw [if_pos hc] at h
    obtain ⟨l, hd⟩ : ∃ l, decodeS Lb b = (l, 0) := ⟨_, Prod.ext rfl hc⟩
    rw [hd] at h
    dsimp only at h
    by_cases hr : rightB (cmOf l) = true
    · rw [if_pos hr] at h
      obtain ⟨rfl, _⟩ := Prod.mk.inj h
      refine ⟨hr, ?_⟩
      obtain ⟨a, t, n, s, y, v, m, d, q, rfl, _, _, _, _, _, _, _, e, he, hbe⟩ := cmd_items hb hd
      have he2 := citems_enc (right_ok hr)
      have : cItems (cmOf (itemsC a t n s y v m d q)) = itemsC a t n s y v m d q := by
        show itemsC a t n s y v (m - 1 + 1) d q = _
        rw [Int.sub_add_cancel]
      rw [this, he] at he2
      unfold cText
      cases he2
      exact hbe
    · rw [if_neg hr] at h
      simp at h
  · rw [if_neg hc] at h
    exact absurd (Prod.mk.inj h).2 hc
theorem cmdV_or (b : ByteArray) : (∃ c, cmdV b = (c, 0) ∧ rightB c = true) ∨ ∃ e, e ≠ 0 ∧ cmdV b = (zC, e) := by
  unfold cmdV
  split
  · split
    · rename_i h
      exact .inl ⟨_, rfl, h⟩
    · exact .inr ⟨10, by decide, rfl⟩
  · rename_i h
    exact .inr ⟨_, h, rfl⟩
theorem cdec_is (b : ByteArray) (hb : b.size ≤ 1000000000000000) (k : Nat) (hk : 6010 ≤ k) : command_Decode.f k b = some (tupC (cmdV b).1 (cmdV b).2) := by
  unfold command_Decode.f
  rw [decode_is _ b (by decide) hb k (by omega)]
  simp only [Option.bind_some]
  obtain ⟨k, rfl⟩ : ∃ m, k = m + 1 := ⟨k - 1, by omega⟩
  have hbad : ∀ l, command_Decode.j0 (k + 1) l true = some (tupC zC 10) := fun l => by
    simp only [command_Decode.j0]
    rw [if_pos trivial]
    rfl
  show (if (decodeS Lb b).2 = 0 then _ else _) = _
  by_cases h : (decodeS Lb b).2 = 0
  case neg =>
    unfold cmdV
    rw [if_neg h, if_neg h]
    rfl
  obtain ⟨l, hd⟩ : ∃ l, decodeS Lb b = (l, 0) := ⟨_, Prod.ext rfl h⟩
  obtain ⟨a, t, n, s, y, v, m, d, q, rfl, ha, hs, hm, hdd, hq, hy, hv, _⟩ := cmd_items hb hd
  have hrv : cmdV b = if rightB ⟨a, t, n, s, y, v, m - 1, d, q⟩ = true then (⟨a, t, n, s, y, v, m - 1, d, q⟩, 0) else (zC, 10) := by
    unfold cmdV
    rw [hd]
    rfl
  rw [show decodeS ((⟨#[98, 116, 116, 108, 116, 116, 108, 98, 108]⟩ : ByteArray).data.toList) b = (itemsC a t n s y v m d q, 0) from hd, hrv]
  dsimp only
  have r0 : rd_T57 (itemsC a t n s y v m d q) 0 = ⟨1, a, ⟨#[]⟩⟩ := rfl
  have r1 : rd_T57 (itemsC a t n s y v m d q) 1 = ⟨4, 0, t⟩ := rfl
  have r2 : rd_T57 (itemsC a t n s y v m d q) 2 = ⟨4, 0, n⟩ := rfl
  have r3 : rd_T57 (itemsC a t n s y v m d q) 3 = ⟨3, s, ⟨#[]⟩⟩ := rfl
  have r4 : rd_T57 (itemsC a t n s y v m d q) 4 = ⟨4, 0, y⟩ := rfl
  have r5 : rd_T57 (itemsC a t n s y v m d q) 5 = ⟨4, 0, v⟩ := rfl
  have r6 : rd_T57 (itemsC a t n s y v m d q) 6 = ⟨3, m, ⟨#[]⟩⟩ := rfl
  have r7 : rd_T57 (itemsC a t n s y v m d q) 7 = ⟨1, d, ⟨#[]⟩⟩ := rfl
  have r8 : rd_T57 (itemsC a t n s y v m d q) 8 = ⟨3, q, ⟨#[]⟩⟩ := rfl
  have hl : (itemsC a t n s y v m d q).length = 9 := rfl
  generalize itemsC a t n s y v m d q = L at r0 r1 r2 r3 r4 r5 r6 r7 r8 hl ⊢
  have hnot : ¬ (s ≤ 9007199254740991 ∧ m - 1 ≤ 9007199254740991 ∧ q ≤ 9007199254740991) → rightB ⟨a, t, n, s, y, v, m - 1, d, q⟩ = false := fun hn => by
    cases hr : rightB ⟨a, t, n, s, y, v, m - 1, d, q⟩
    · rfl
    · have ho := right_ok hr
      exact absurd ⟨ho.seq.2, ho.n.2, ho.ask.2⟩ hn
  rw [if_pos rfl, if_pos (by rw [hl]; decide), r3, r6, r8]
  simp only [command_fits.f, command_fitsOne.f, Option.bind_some]
  by_cases c0 : s ≤ 9007199254740991
  case neg => rw [if_neg (by simpa using c0), hbad, hnot (fun h => c0 h.1)]; rfl
  rw [if_pos (by simpa using c0), if_pos (by rw [hl]; decide)]
  by_cases c1 : m ≤ 9007199254740992
  case neg => rw [if_neg (by simpa using c1), hbad, hnot (fun h => c1 (by omega))]; rfl
  rw [if_pos (by simpa using c1), if_pos (by rw [hl]; decide)]
  by_cases c2 : q ≤ 9007199254740991
  case neg => rw [decide_eq_false c2, Bool.not_false, hbad, hnot (fun h => c2 h.2.2)]; rfl
  rw [decide_eq_true c2, Bool.not_true]
  simp only [command_Decode.j0]
  rw [if_neg (by decide), if_pos (by rw [hl]; decide), if_pos (by rw [hl]; decide), if_pos (by rw [hl]; decide), if_pos (by rw [hl]; decide), if_pos (by rw [hl]; decide), if_pos (by rw [hl]; decide), if_pos (by rw [hl]; decide)]
  rw [r0, r1, r2, r3, r4, r5, r6, r7, r8]
  simp only [command_less.f, Option.bind_some]
  rw [if_pos (by rw [hl]; decide), if_pos (by rw [hl]; decide)]
  rw [show wrap64 a = a by unfold wrap64; omega, show wrap64 s = s by unfold wrap64; omega, show wrap64 m = m by unfold wrap64; omega, show wrap64 (m - 1) = m - 1 by unfold wrap64; omega, show wrap64 d = d by unfold wrap64; omega, show wrap64 q = q by unfold wrap64; omega]
  rw [right_is14 ⟨a, t, n, s, y, v, m - 1, d, q⟩ (by dsimp only; omega)]
  simp only [Option.bind_some]
  cases rightB ⟨a, t, n, s, y, v, m - 1, d, q⟩
  · simp only [Bool.false_eq_true, if_false]
    rfl
  · simp only [if_true]
    rfl
theorem word_num (l : List UInt8) (h : 4 ≤ l.length) : word4 (num4 l) = l.take 4 := by
  have e : ∀ (x : Nat) (u : UInt8), x % 256 = u.toNat → UInt8.ofNat x = u := by
    intro x u hx
    apply UInt8.toNat_inj.mp
    rw [UInt8.toNat_ofNat']
    exact hx
  rcases l with _ | ⟨a, _ | ⟨b, _ | ⟨c, _ | ⟨d, r⟩⟩⟩⟩
  all_goals first | (simp only [List.length_cons, List.length_nil] at h; omega) | skip
  have ha := UInt8.toNat_lt a
  have hb := UInt8.toNat_lt b
  have hc := UInt8.toNat_lt c
  have hd := UInt8.toNat_lt d
  have hn : num4 (a :: b :: c :: d :: r) = a.toNat * 16777216 + b.toNat * 65536 + c.toNat * 256 + d.toNat := rfl
  rw [hn]
  show [UInt8.ofNat _, UInt8.ofNat _, UInt8.ofNat _, UInt8.ofNat _] = [a, b, c, d]
  rw [e _ a (by omega), e _ b (by omega), e _ c (by omega), e _ d (by omega)]
/-- What is one frame, whole. -/
theorem take_whole {s b : ByteArray} (h : takeV s = (b, (s.size : Int), 0)) : s = frame b ∧ b.size ≤ 400000 := by
  unfold takeV at h
  by_cases h4 : s.size < 4
  · rw [if_pos h4] at h; simp at h
  rw [if_neg h4] at h
  by_cases h5 : 400000 < num4 (ls s)
  · rw [if_pos h5] at h; simp at h
  rw [if_neg h5] at h
  by_cases h6 : s.size < 8 + num4 (ls s)
  · rw [if_pos h6] at h; simp at h
  rw [if_neg h6] at h
  by_cases h7 : sumOf ((ls s).take 4) (((ls s).drop 8).take (num4 (ls s))) = num4 ((ls s).drop 4)
  case neg => rw [if_neg h7] at h; simp at h
  rw [if_pos h7] at h
  obtain ⟨hb, h⟩ := Prod.mk.inj h
  obtain ⟨hz, _⟩ := Prod.mk.inj h
  have hz2 : 8 + num4 (ls s) = s.size := by omega
  have hl := ls_len s
  have e1 := word_num (ls s) (by omega)
  have e2 := word_num ((ls s).drop 4) (by rw [List.length_drop]; omega)
  have hlb : ls b = (ls s).drop 8 := by
    rw [← hb, ls_extract, show 8 + num4 (ls s) - 8 = num4 (ls s) by omega, List.take_of_length_le (by rw [List.length_drop]; omega)]
  have hbs : b.size = num4 (ls s) := by rw [← ls_len, hlb, List.length_drop]; omega
  refine ⟨?_, by omega⟩
  apply ls_inj
  rw [frame_ls]
  unfold frameL
  rw [ls_len, hbs, e1, hlb]
  have h8 : ((ls s).drop 8).take (num4 (ls s)) = (ls s).drop 8 := List.take_of_length_le (by rw [List.length_drop]; omega)
  rw [h8] at h7
  rw [h7, e2]
  rw [show (ls s).drop 8 = ((ls s).drop 4).drop 4 by rw [List.drop_drop], List.append_assoc, List.take_append_drop, List.take_append_drop]
/-- The body of a text that is one frame. -/
def framedV (s : ByteArray) : ByteArray × Int := if (takeV s).2.2 = 0 then (if (takeV s).2.1 = (s.size : Int) then ((takeV s).1, 0) else (⟨#[]⟩, 10)) else (⟨#[]⟩, (takeV s).2.2)
theorem framed_is (s : ByteArray) (hs : s.size ≤ 9223372036854775807) : command_framed.f s = some (framedV s) := by
  unfold command_framed.f framedV
  rw [take_is s hs, Option.bind_some]
  split
  · split
    · rfl
    · rfl
  · rfl
theorem framed_back {s b : ByteArray} (h : framedV s = (b, 0)) : s = frame b ∧ b.size ≤ 400000 := by
  unfold framedV at h
  by_cases h1 : (takeV s).2.2 = 0
  · rw [if_pos h1] at h
    by_cases h2 : (takeV s).2.1 = (s.size : Int)
    · rw [if_pos h2] at h
      have hb := (Prod.mk.inj h).1
      exact take_whole (Prod.ext hb (Prod.ext h2 h1))
    · rw [if_neg h2] at h; simp at h
  · rw [if_neg h1] at h
    exact absurd (Prod.mk.inj h).2 h1
theorem framed_enc {b : ByteArray} (h : b.size ≤ 400000) : framedV (frame b) = (b, 0) := by
  have := take_frame b h (frame b) [] (by rw [frame_ls, List.append_nil])
  unfold framedV
  rw [this]
  dsimp only
  rw [if_pos rfl, if_pos (by rw [frame_size])]
theorem framed_or (s : ByteArray) : (∃ b, framedV s = (b, 0) ∧ b.size ≤ s.size) ∨ ∃ e, e ≠ 0 ∧ framedV s = (⟨#[]⟩, e) := by
  unfold framedV
  split
  · split
    · rename_i h1 h2
      refine .inl ⟨_, rfl, ?_⟩
      rcases take_tells s with ⟨_, _, h3⟩ | ⟨h3, _⟩
      · omega
      · exact absurd h1 h3
    · exact .inr ⟨10, by decide, rfl⟩
  · rename_i h
    exact .inr ⟨_, h, rfl⟩
/-- What is read of a client's bytes. -/
def askedV (s : ByteArray) : CM × Int := if (framedV s).2 = 0 then (if (cmdV (framedV s).1).2 = 0 ∧ (cmdV (framedV s).1).1.node = 0 then ((cmdV (framedV s).1).1, 0) else (zC, 10)) else (zC, (framedV s).2)
theorem asked_is (s : ByteArray) (hs : s.size ≤ 140737488351232) (k : Nat) (hk : 6010 ≤ k) : command_Asked.f k s = some (tupC (askedV s).1 (askedV s).2) := by
  unfold command_Asked.f askedV
  rw [framed_is s (by omega)]
  simp only [Option.bind_some]
  by_cases h : (framedV s).2 = 0
  · rw [if_pos h, if_pos h]
    have hz : (framedV s).1.size ≤ 1000000000000000 := by
      rcases framed_or s with ⟨b, hb, hl⟩ | ⟨e, he, hb⟩
      · rw [hb]; dsimp only; omega
      · rw [hb] at h; exact absurd h he
    rw [cdec_is _ hz k hk]
    simp only [Option.bind_some, tupC]
    by_cases h1 : (cmdV (framedV s).1).2 = 0
    · rw [if_pos h1]
      by_cases h2 : (cmdV (framedV s).1).1.node = 0
      · rw [if_pos h2, if_pos ⟨h1, h2⟩]
      · rw [if_neg h2, if_neg (fun h => h2 h.2)]; rfl
    · rw [if_neg h1, if_neg (fun h => h1 h.1)]; rfl
  · rw [if_neg h, if_neg h]; rfl
def reqV (c : CM) : ByteArray × Int := if rightB c = true ∧ c.node = 0 then (frame (cText c), 0) else (⟨#[]⟩, 1)
theorem req_is (c : CM) (hz : c.key.size + c.value.size ≤ 9223372036854775807) (k : Nat) (hk : 1012 ≤ k) : command_Request.f k c.kind c.topic c.name c.seq c.key c.value c.n c.node c.ask = some (reqV c) := by
  unfold command_Request.f reqV
  rw [cenc_is c hz k hk]
  simp only [Option.bind_some]
  by_cases h : rightB c = true
  · rw [if_pos h]
    dsimp only
    rw [if_pos rfl]
    by_cases h2 : c.node = 0
    · have hl := cText_le (right_ok h)
      rw [if_pos h2, if_pos ⟨h, h2⟩, frame_is, if_neg (by omega)]
      rfl
    · rw [if_neg h2, if_neg (fun h => h2 h.2)]
  · rw [if_neg h]
    dsimp only
    rw [if_neg (by decide), if_neg (fun hh => h hh.1)]
theorem asked_req {c : CM} (h : rightB c = true) (h2 : c.node = 0) : askedV (frame (cText c)) = (c, 0) := by
  have hl := cText_le (right_ok h)
  unfold askedV
  rw [framed_enc (by omega)]
  dsimp only
  rw [if_pos rfl, cmdV_enc h]
  dsimp only
  rw [if_pos ⟨rfl, h2⟩]
theorem asked_back {s : ByteArray} {c : CM} (h : askedV s = (c, 0)) : (rightB c = true ∧ c.node = 0) ∧ s = frame (cText c) := by
  unfold askedV at h
  by_cases h1 : (framedV s).2 = 0
  · rw [if_pos h1] at h
    by_cases h2 : (cmdV (framedV s).1).2 = 0 ∧ (cmdV (framedV s).1).1.node = 0
    · rw [if_pos h2] at h
      have hc := (Prod.mk.inj h).1
      obtain ⟨hs, hb⟩ := framed_back (s := s) (b := (framedV s).1) (Prod.ext rfl h1)
      obtain ⟨hr, ht⟩ := cmdV_back (b := (framedV s).1) (c := c) (by omega) (Prod.ext hc h2.1)
      refine ⟨⟨hr, by rw [← hc]; exact h2.2⟩, ?_⟩
      rw [← ht]
      exact hs
    · rw [if_neg h2] at h; simp at h
  · rw [if_neg h1] at h
    exact absurd (Prod.mk.inj h).2 h1
theorem asked_or (s : ByteArray) : (∃ c, askedV s = (c, 0)) ∨ ∃ e, e ≠ 0 ∧ askedV s = (zC, e) := by
  unfold askedV
  split
  · split
    · exact .inl ⟨_, rfl⟩
    · exact .inr ⟨10, by decide, rfl⟩
  · rename_i h
    exact .inr ⟨_, h, rfl⟩
end Go.Proofs.YtpgiagdpepkooaaDoor.P
