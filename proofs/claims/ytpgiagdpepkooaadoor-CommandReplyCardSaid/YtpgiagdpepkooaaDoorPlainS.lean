/- Records: which are right, what is written of one, what is read of a body. -/
import Derived.Test.YtpgiagdpepkooaaDoorPx7
import Derived.Test.YtpgiagdpepkooaaDoorPlainC
namespace Go.Proofs.YtpgiagdpepkooaaDoor.P
open Go.RowKit Go.Proofs.YtpgiagdpepkooaaDoorW.PrintWords Go.Proofs.YtpgiagdpepkooaaDoorW.PrintLast Go.Proofs.YtpgiagdpepkooaaDoorW.PrintMore
set_option linter.unusedSimpArgs false
set_option linter.unusedVariables false
set_option maxRecDepth 100000
abbrev SR := S48
def RecP (r : SR) : Prop := (0 ≤ r.f0 ∧ r.f0 ≤ 9007199254740991) ∧ (0 ≤ r.f2 ∧ r.f2 ≤ 9007199254740991) ∧ r.f1.size ≤ 20 ∧ r.f3.size ≤ 100 ∧ r.f4.size ≤ 1000
instance (r : SR) : Decidable (RecP r) := by unfold RecP; infer_instance
def rItems (r : SR) : List SI := [⟨3, r.f0, ⟨#[]⟩⟩, ⟨4, 0, r.f1⟩, ⟨3, r.f2, ⟨#[]⟩⟩, ⟨4, 0, r.f3⟩, ⟨4, 0, r.f4⟩]
def recN (r : SR) : List Int := beI r.f0 8 ++ (beI (r.f1.size : Int) 4 ++ bytesOf r.f1 ++ (beI r.f2 8 ++ (beI (r.f3.size : Int) 4 ++ bytesOf r.f3 ++ (beI (r.f4.size : Int) 4 ++ bytesOf r.f4 ++ []))))
def recB (r : SR) : ByteArray := strOfNums (recN r)
theorem rItems_enc {r : SR} (h : RecP r) : encAll (rItems r) = .ok (recN r) := by
  obtain ⟨_, _, h1, h3, h4⟩ := h
  unfold rItems recN
  simp only [encAll, encLg]
  rw [encTx r.f1 (by omega), encTx r.f3 (by omega), encTx r.f4 (by omega)]
theorem rItems_wf {r : SR} (h : RecP r) : ∀ x ∈ rItems r, WfI x := by
  obtain ⟨h0, h2, h1, h3, h4⟩ := h
  intro x hx
  unfold rItems at hx
  simp only [List.mem_cons, List.not_mem_nil, or_false] at hx
  rcases hx with rfl | rfl | rfl | rfl | rfl
  · exact wfLg (by omega) (by omega)
  · exact wfTx (by omega)
  · exact wfLg (by omega) (by omega)
  · exact wfTx (by omega)
  · exact wfTx (by omega)
theorem recB_size {r : SR} (h : RecP r) : (recB r).size = 28 + r.f1.size + r.f3.size + r.f4.size := by
  unfold recB
  rw [son_size]
  unfold recN
  simp only [List.length_append, beI_length, bytes_len, List.length_nil]
  omega
theorem recB_le {r : SR} (h : RecP r) : (recB r).size ≤ 1148 := by
  rw [recB_size h]
  obtain ⟨_, _, h1, h3, h4⟩ := h
  omega
theorem rItems_encS {r : SR} (h : RecP r) : encS (rItems r) = (recB r, 0) := encS_of (rItems_enc h) (by unfold rItems; simp)
def zR : SR := ⟨0, ⟨#[]⟩, 0, ⟨#[]⟩, ⟨#[]⟩⟩
def recOf (l : List SI) : SR := ⟨(l.getD 0 z57).f1, (l.getD 1 z57).f2, (l.getD 2 z57).f1, (l.getD 3 z57).f2, (l.getD 4 z57).f2⟩
/-- What is read of a body. -/
def recV (b : ByteArray) : SR × Int := if (decodeS [108, 116, 108, 116, 116] b).2 = 0 ∧ RecP (recOf (decodeS [108, 116, 108, 116, 116] b).1) then (recOf (decodeS [108, 116, 108, 116, 116] b).1, 0) else (zR, 10)
theorem rec_items {b : ByteArray} (hb : b.size ≤ 1000000000000000) {l : List SI} (h : decodeS [108, 116, 108, 116, 116] b = (l, 0)) :
    ∃ v0 t1 v2 t3 t4, l = [⟨3, v0, ⟨#[]⟩⟩, ⟨4, 0, t1⟩, ⟨3, v2, ⟨#[]⟩⟩, ⟨4, 0, t3⟩, ⟨4, 0, t4⟩] ∧ 0 ≤ v0 ∧ v0 < 18446744073709551616 ∧ 0 ≤ v2 ∧ v2 < 18446744073709551616 ∧ ∃ e, encAll l = .ok e ∧ b = strOfNums e := by
  obtain ⟨e, h1, h2, h3, h4, h5⟩ := dec_fixed (show parseS [108, 116, 108, 116, 116] = some ([3, 4, 3, 4, 4], []) by decide) hb h
  have hea := encAll_each l e h1
  obtain ⟨x0, x1, x2, x3, x4, rfl⟩ : ∃ x0 x1 x2 x3 x4, l = [x0, x1, x2, x3, x4] := by
    have hlen : l.length = 5 := by have := congrArg List.length h4; simpa using this
    rcases l with _ | ⟨x0, _ | ⟨x1, _ | ⟨x2, _ | ⟨x3, _ | ⟨x4, _ | ⟨x5, l⟩⟩⟩⟩⟩⟩
    all_goals first | exact ⟨_, _, _, _, _, rfl⟩ | (simp only [List.length_cons, List.length_nil] at hlen; omega)
  simp only [List.map_cons, List.map_nil, List.cons.injEq, and_true] at h4
  obtain ⟨k0, k1, k2, k3, k4⟩ := h4
  obtain ⟨a0, e0⟩ := hea x0 (by simp)
  obtain ⟨a1, e1⟩ := hea x1 (by simp)
  obtain ⟨a2, e2⟩ := hea x2 (by simp)
  obtain ⟨a3, e3⟩ := hea x3 (by simp)
  obtain ⟨a4, e4⟩ := hea x4 (by simp)
  obtain ⟨v0, rfl, p0, p1⟩ := item3 e0 (h3 x0 (by simp)) k0
  obtain ⟨t1, rfl, _⟩ := item4 e1 k1
  obtain ⟨v2, rfl, q0, q1⟩ := item3 e2 (h3 x2 (by simp)) k2
  obtain ⟨t3, rfl, _⟩ := item4 e3 k3
  obtain ⟨t4, rfl, _⟩ := item4 e4 k4
  exact ⟨v0, t1, v2, t3, t4, rfl, p0, p1, q0, q1, e, h1, h2⟩
theorem recV_enc {r : SR} (h : RecP r) : recV (recB r) = (r, 0) := by
  have hd : decodeS [108, 116, 108, 116, 116] (recB r) = (rItems r, 0) := dec_written (show parseS [108, 116, 108, 116, 116] = some ([3, 4, 3, 4, 4], []) by decide) (rItems r) rfl (rItems_enc h) (rItems_wf h) (by unfold rItems; simp)
  have he : recOf (rItems r) = r := rfl
  unfold recV
  rw [hd]
  dsimp only
  rw [he, if_pos ⟨rfl, h⟩]
theorem recV_back {b : ByteArray} {r : SR} (hb : b.size ≤ 1000000000000000) (h : recV b = (r, 0)) : RecP r ∧ b = recB r := by
  unfold recV at h
  split at h
  · rename_i hc
    obtain ⟨hc, hr⟩ := hc
    obtain ⟨l, hd⟩ : ∃ l, decodeS [108, 116, 108, 116, 116] b = (l, 0) := ⟨_, Prod.ext rfl hc⟩
    rw [hd] at h hr
    dsimp only at h hr
    obtain ⟨v0, t1, v2, t3, t4, rfl, _, _, _, _, e, he, hbe⟩ := rec_items hb hd
    obtain ⟨rfl, _⟩ := Prod.mk.inj h
    refine ⟨hr, ?_⟩
    have he2 := rItems_enc hr
    have : rItems (recOf [⟨3, v0, ⟨#[]⟩⟩, ⟨4, 0, t1⟩, ⟨3, v2, ⟨#[]⟩⟩, ⟨4, 0, t3⟩, ⟨4, 0, t4⟩]) = [⟨3, v0, ⟨#[]⟩⟩, ⟨4, 0, t1⟩, ⟨3, v2, ⟨#[]⟩⟩, ⟨4, 0, t3⟩, ⟨4, 0, t4⟩] := rfl
    rw [this, he] at he2
    cases he2
    exact hbe
  · simp at h
theorem recV_or (b : ByteArray) : (∃ r, recV b = (r, 0) ∧ RecP r) ∨ recV b = (zR, 10) := by
  unfold recV
  split
  · rename_i hc
    exact .inl ⟨_, rfl, hc.2⟩
  · exact .inr rfl
theorem decS_star (b : List Int) (n : Nat) (out : List S57) (s : ByteArray) (hs : s.toList ≠ ([] : List UInt8)) (hb : b ≠ []) : decS b n [] out s = decS b n b out s := by
  cases b with
  | nil => exact absurd rfl hb
  | cons x xs =>
    cases n with
    | zero => simp only [decS, nextK]; rw [if_neg hs]
    | succ n => simp only [decS, nextK]; rw [if_neg hs]
theorem decS_done (b : List Int) (n : Nat) (out : List S57) (s : ByteArray) (hs : s.toList = ([] : List UInt8)) : decS b n [] out s = (out, 0) := by
  cases b with
  | nil =>
    cases n with
    | zero => simp only [decS, nextK]; rw [if_pos hs]
    | succ n => simp only [decS, nextK]; rw [if_pos hs]
  | cons x xs =>
    cases n with
    | zero => simp only [decS, nextK]; rw [if_pos hs]
    | succ n => simp only [decS, nextK]; rw [if_pos hs]
theorem dec_enc_star (b : List Int) (hb : b ≠ []) (j : Nat) : ∀ (l : List S57) (m : List Int) (n : Nat) (out : List S57) (s : ByteArray), (∀ x ∈ l, WfI x) → encAll l = .ok m → l.map (·.f0) = (List.replicate j b).flatten → l.length ≤ n → s.data.toList = toU m →
    decS b n [] out s = (out ++ l, 0) := by
  induction j with
  | zero =>
    intro l m n out s hw h hk hl hs
    have e : l = [] := by
      have : l.map (·.f0) = [] := by rw [hk]; simp
      exact List.map_eq_nil_iff.1 this
    subst e
    cases h
    rw [decS_done b n out s (by rw [toList_eq, hs]; rfl), List.append_nil]
  | succ j ih =>
    intro l m n out s hw h hk hl hs
    rw [List.replicate_succ, List.flatten_cons] at hk
    obtain ⟨l1, l2, rfl, k1, k2⟩ := List.map_eq_append_iff.1 hk
    rw [encAll_append] at h
    cases h1 : encAll l1 with
    | error e => rw [h1] at h; cases h
    | ok m1 =>
      rw [h1] at h
      cases h2 : encAll l2 with
      | error e => rw [h2] at h; cases h
      | ok m2 =>
        rw [h2] at h
        cases h
        rw [List.length_append] at hl
        have hne : toU m1 ≠ [] := by
          cases l1 with
          | nil => exact absurd k1.symm hb
          | cons x xs =>
            simp only [encAll] at h1
            cases g1 : encOne x with
            | error e => rw [g1] at h1; cases h1
            | ok a =>
              rw [g1] at h1
              have hp := encOne_pos g1
              cases g2 : encAll xs with
              | error e => rw [g2] at h1; cases h1
              | ok c =>
                rw [g2] at h1
                cases h1
                intro e
                have := congrArg List.length e
                rw [toU_length, List.length_append, List.length_nil] at this
                omega
        rw [toU_append] at hs
        have hsn : s.toList ≠ ([] : List UInt8) := by
          rw [toList_eq, hs]
          intro e
          exact hne (List.append_eq_nil_iff.1 e).1
        rw [decS_star b n out s hsn hb]
        have := dec_enc b (toU m2) l1 m1 n [] out s (fun x hx => hw x (List.mem_append_left _ hx)) h1 (by omega) hs
        rw [List.append_nil, k1] at this
        rw [this, ih l2 m2 (n - l1.length) (out ++ l1) _ (fun x hx => hw x (List.mem_append_right _ hx)) h2 k2 (by omega) rfl, List.append_assoc]
end Go.Proofs.YtpgiagdpepkooaaDoor.P
