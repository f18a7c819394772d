/- Words, and right commands. -/
import Derived.Test.YtpgiagdpepkooaaDoorPx3
import Derived.Test.YtpgiagdpepkooaaDoorPx5
import Derived.Test.YtpgiagdpepkooaaDoorPlainC
namespace Go.Proofs.YtpgiagdpepkooaaDoor.P
open Go.RowKit Go.Proofs.YtpgiagdpepkooaaDoorW.PrintWords Go.Proofs.YtpgiagdpepkooaaDoorW.PrintLast Go.Proofs.YtpgiagdpepkooaaDoorW.PrintMore
set_option linter.unusedSimpArgs false
set_option linter.unusedVariables false
set_option maxRecDepth 100000
/-- A letter of a word. -/
def letW (c : UInt8) : Bool := (decide (97 ≤ c.toNat) && decide (c.toNat ≤ 122)) || (decide (48 ≤ c.toNat) && decide (c.toNat ≤ 57))
theorem notWord_let (c : UInt8) : notWordR c.toNat = !letW c := rfl
theorem get_ls (s : ByteArray) (i : Nat) (h : i < s.size) : s.data.toList[i]'(by rw [data_len]; exact h) = s[i] := rfl
theorem get_bang (s : ByteArray) (i : Nat) (h : i < s.size) : s.get! i = s[i] := by
  show s.data[i]! = _
  rw [getElem!_pos s.data i (by exact h)]
  rfl
theorem decode_high (s : ByteArray) (i : Nat) (h : i < s.size) (hc : 128 ≤ (s[i]).toNat) : 128 ≤ (Utf8.decode s i).1 := by
  have e : (s.get! (i + 0)).toNat = (s[i]).toNat := by rw [Nat.add_zero, get_bang s i h]
  unfold Utf8.decode
  simp only [e, Utf8.runeError]
  rw [if_neg (by omega)]
  repeat' split
  all_goals (try (show 128 ≤ 65533; decide))
  all_goals (simp only [Bool.and_eq_true, decide_eq_true_eq, ge_iff_le] at *; omega)
theorem idxW (s : ByteArray) : ∀ (f pos : Nat), s.size ≤ pos + f → (decide (Lib.idxFuncFrom notWordR true s f pos < 0)) = (s.data.toList.drop pos).all letW := by
  intro f
  induction f with
  | zero =>
    intro pos h
    rw [List.drop_of_length_le (by rw [data_len]; omega)]
    rfl
  | succ f ih =>
    intro pos h
    by_cases hp : pos < s.size
    · have hl : pos < s.data.toList.length := by rw [data_len]; exact hp
      rw [List.drop_eq_getElem_cons hl, List.all_cons]
      unfold Lib.idxFuncFrom
      rw [if_pos hp]
      have hg : s.data.toList[pos] = s[pos] := rfl
      rw [hg]
      by_cases hc : (s[pos]).toNat < 128
      · rw [decode_ascii s pos hp hc]
        dsimp only
        rw [notWord_let]
        cases hw : letW s[pos]
        · rw [if_pos (show (!false) = true from rfl), Bool.false_and]
          exact decide_eq_false (by omega)
        · rw [if_neg (show ¬ (!true) = true by decide), ih (pos + 1) (by omega), Bool.true_and]
      · have hd := decode_high s pos hp (by omega)
        have hn : notWordR (Utf8.decode s pos).1 = true := by
          unfold notWordR
          generalize (Utf8.decode s pos).1 = x at *
          simp
          omega
        have hw : letW s[pos] = false := by
          unfold letW
          generalize (s[pos]).toNat = x at *
          simp
          omega
        rw [if_pos hn, hw, Bool.false_and]
        exact decide_eq_false (by omega)
    · rw [Lib.idxFuncFrom_end _ _ _ _ _ hp, List.drop_of_length_le (by rw [data_len]; omega)]
      rfl
/-- Is a text a word? -/
def wordB (s : ByteArray) : Bool := decide (s.size ≠ 0) && decide (s.size ≤ 20) && s.data.toList.all letW
theorem word_is14 (s : ByteArray) : command_Word.f s = some (wordB s) := by
  unfold command_Word.f wordB Lib.idxFunc
  rw [idxW s s.size 0 (by omega), List.drop_zero]
def namedB (s : ByteArray) (m : Bool) : Bool := if m = true then wordB s else (s.toList == ([] : List UInt8))
theorem named_is (s : ByteArray) (m : Bool) : command_named.f s m = some (namedB s m) := by
  unfold command_named.f namedB
  cases m
  · rfl
  · rw [if_pos rfl, if_pos rfl, word_is14]; rfl
theorem named_le {s : ByteArray} {m : Bool} (h : namedB s m = true) : s.size ≤ 20 := by
  unfold namedB at h
  cases m
  · simp only [Bool.false_eq_true, if_false, beq_iff_eq] at h
    have := ba_nil h
    rw [this]
    show (0 : Nat) ≤ 20
    omega
  · rw [if_pos rfl] at h
    unfold wordB at h
    simp at h
    omega
/-- A command. -/
structure CM where
  kind : Int
  topic : ByteArray
  name : ByteArray
  seq : Int
  key : ByteArray
  value : ByteArray
  n : Int
  node : Int
  ask : Int
/-- Is a command right? -/
def rightB (c : CM) : Bool := match ruleV c.kind with
  | none => false
  | some (t, n, p, lo, hi) => namedB c.topic t && namedB c.name n && (decide (lo ≤ c.n) && decide (c.n ≤ hi)) && (decide (0 ≤ c.node) && decide (0 ≤ c.ask) && decide (0 ≤ c.seq)) && decide (c.node < 7) && (decide (c.ask ≤ 9007199254740991) && decide (c.seq ≤ 9007199254740991)) &&
        (if p = true then decide (c.key.size ≤ 100) && decide (c.value.size ≤ 1000) else decide (c.seq = 0) && (c.key.toList == ([] : List UInt8)) && (c.value.toList == ([] : List UInt8)))
theorem right_is14 (c : CM) (h : c.key.size + c.value.size ≤ 9223372036854775807) : command_Right.f c.kind c.topic c.name c.seq c.key c.value c.n c.node c.ask = some (rightB c) := by
  unfold command_Right.f rightB
  rw [if_pos h]
  cases ruleV c.kind with
  | none => rfl
  | some q =>
    obtain ⟨t, n, p, lo, hi⟩ := q
    dsimp only
    rw [named_is, named_is]
    rfl
theorem rule_kind {k : Int} {q : Bool × Bool × Bool × Int × Int} (h : ruleV k = some q) : 1 ≤ k ∧ k ≤ 11 ∧ -1 ≤ q.2.2.2.1 ∧ q.2.2.2.2 ≤ 9007199254740991 := by
  unfold ruleV at h
  repeat' split at h
  all_goals first | (cases h; done) | (obtain rfl := Option.some.inj h; dsimp only; omega)
/-- What right commands are within. -/
structure CMok (c : CM) : Prop where
  kind : 1 ≤ c.kind ∧ c.kind ≤ 11
  topic : c.topic.size ≤ 20
  name : c.name.size ≤ 20
  seq : 0 ≤ c.seq ∧ c.seq ≤ 9007199254740991
  key : c.key.size ≤ 100
  value : c.value.size ≤ 1000
  n : -1 ≤ c.n ∧ c.n ≤ 9007199254740991
  node : 0 ≤ c.node ∧ c.node < 7
  ask : 0 ≤ c.ask ∧ c.ask ≤ 9007199254740991
theorem size_nil {s : ByteArray} (h : (s.toList == ([] : List UInt8)) = true) : s.size = 0 := by
  rw [ba_nil (beq_iff_eq.mp h)]
  rfl
theorem right_ok {c : CM} (h : rightB c = true) : CMok c := by
  unfold rightB at h
  split at h
  · cases h
  · rename_i t n p lo hi hq
    have hk := rule_kind hq
    dsimp only at hk
    simp only [Bool.and_eq_true, decide_eq_true_eq] at h
    obtain ⟨⟨⟨⟨⟨⟨h1, h2⟩, h3⟩, ⟨h4, h5⟩, h6⟩, h7⟩, h8, h9⟩, h10⟩ := h
    have hkv : c.key.size ≤ 100 ∧ c.value.size ≤ 1000 := by
      cases p
      · simp only [Bool.false_eq_true, if_false, Bool.and_eq_true] at h10
        have a := size_nil h10.1.2
        have b := size_nil h10.2
        omega
      · simpa using h10
    exact ⟨⟨hk.1, hk.2.1⟩, named_le h1, named_le h2, ⟨h6, h9⟩, hkv.1, hkv.2, by omega, ⟨h4, h7⟩, ⟨h5, h8⟩⟩
/-- The items of a command, and their bytes. -/
def cItems (c : CM) : List SI := [⟨1, c.kind, ⟨#[]⟩⟩, ⟨4, 0, c.topic⟩, ⟨4, 0, c.name⟩, ⟨3, c.seq, ⟨#[]⟩⟩, ⟨4, 0, c.key⟩, ⟨4, 0, c.value⟩, ⟨3, c.n + 1, ⟨#[]⟩⟩, ⟨1, c.node, ⟨#[]⟩⟩, ⟨3, c.ask, ⟨#[]⟩⟩]
def txN (s : ByteArray) : List Int := beI (s.size : Int) 4 ++ bytesOf s
def cBytes (c : CM) : List Int := beI c.kind 1 ++ (txN c.topic ++ (txN c.name ++ (beI c.seq 8 ++ (txN c.key ++ (txN c.value ++ (beI (c.n + 1) 8 ++ (beI c.node 1 ++ (beI c.ask 8 ++ []))))))))
theorem txN_len (s : ByteArray) : (txN s).length = 4 + s.size := by unfold txN; rw [List.length_append, beI_length, bytes_len]
theorem citems_enc {c : CM} (h : CMok c) : encAll (cItems c) = .ok (cBytes c) := by
  have hk := h.kind
  have ht := h.topic
  have hn := h.name
  have hy := h.key
  have hv := h.value
  have ho := h.node
  unfold cItems cBytes txN
  simp only [encAll, encBt _ (show (0 : Int) ≤ c.kind by omega) (show c.kind < 256 by omega), encBt _ (show (0 : Int) ≤ c.node by omega) (show c.node < 256 by omega), encTx _ (show c.topic.size ≤ 100000 by omega), encTx _ (show c.name.size ≤ 100000 by omega), encTx _ (show c.key.size ≤ 100000 by omega), encTx _ (show c.value.size ≤ 100000 by omega), encLg]
theorem citems_wf {c : CM} (h : CMok c) : ∀ x ∈ cItems c, WfI x := by
  have hk := h.kind
  have hs := h.seq
  have ht := h.topic
  have hn := h.name
  have hy := h.key
  have hv := h.value
  have ho := h.node
  have ha := h.ask
  have hnn := h.n
  intro x hx
  unfold cItems at hx
  simp only [List.mem_cons, List.not_mem_nil, or_false] at hx
  rcases hx with rfl | rfl | rfl | rfl | rfl | rfl | rfl | rfl | rfl
  · exact wfBt (by omega) (by omega)
  · exact wfTx (by omega)
  · exact wfTx (by omega)
  · exact wfLg (by omega) (by omega)
  · exact wfTx (by omega)
  · exact wfTx (by omega)
  · exact wfLg (by omega) (by omega)
  · exact wfBt (by omega) (by omega)
  · exact wfLg (by omega) (by omega)
theorem citems_len (c : CM) : (cItems c).length = 9 := rfl
theorem cBytes_len (c : CM) : (cBytes c).length = 42 + c.topic.size + c.name.size + c.key.size + c.value.size := by
  unfold cBytes
  simp only [List.length_append, beI_length, txN_len, List.length_nil]
  omega
def cText (c : CM) : ByteArray := strOfNums (cBytes c)
theorem cText_size (c : CM) : (cText c).size = 42 + c.topic.size + c.name.size + c.key.size + c.value.size := by
  unfold cText
  rw [son_size, cBytes_len]
theorem cText_le {c : CM} (h : CMok c) : (cText c).size ≤ 1182 := by
  rw [cText_size]
  have ht := h.topic
  have hn := h.name
  have hy := h.key
  have hv := h.value
  omega
theorem cenc_is (c : CM) (hz : c.key.size + c.value.size ≤ 9223372036854775807) (k : Nat) (hk : 1012 ≤ k) : command_Encode.f k c.kind c.topic c.name c.seq c.key c.value c.n c.node c.ask = some (if rightB c = true then (cText c, 0) else (⟨#[]⟩, 1)) := by
  unfold command_Encode.f
  rw [right_is14 c hz, Option.bind_some]
  cases h : rightB c
  · simp
  · have ho := right_ok h
    have e1 := wrapU64 (show 0 ≤ c.kind by have := ho.kind; omega) (by have := ho.kind; omega)
    have e2 := wrapU64 (show 0 ≤ c.seq by have := ho.seq; omega) (by have := ho.seq; omega)
    have e3 : wrap64 (c.n + 1) = c.n + 1 := wrap64_id (by have := ho.n; omega) (by have := ho.n; omega)
    have e4 := wrapU64 (show 0 ≤ c.n + 1 by have := ho.n; omega) (by have := ho.n; omega)
    have e5 := wrapU64 (show 0 ≤ c.node by have := ho.node; omega) (by have := ho.node; omega)
    have e6 := wrapU64 (show 0 ≤ c.ask by have := ho.ask; omega) (by have := ho.ask; omega)
    have hE : codec_Encode.f k (cItems c) = some (cText c, 0) := by
      rw [encode_is _ (citems_wf ho) k hk, encS_of (citems_enc ho) (by rw [citems_len]; omega)]
      rfl
    unfold cItems at hE
    rw [if_pos rfl, if_pos rfl]
    simp only [command_small.f, command_text.f, command_long.f, Option.bind_some, e1, e2, e3, e4, e5, e6]
    rw [hE]
    rfl
end Go.Proofs.YtpgiagdpepkooaaDoor.P
