/- Any data that come in are opened: what reads as a datum of a type is told as a value of a plain kind, with its sizes. -/
import Derived.Test.YtdpogggajdfedaaRows
import Derived.Test.YtdpogggajdfedaaWMore
import Derived.Deep.Slices
import Derived.ProofKit
import Derived.SizedLaws
import Derived.DataReads
namespace Go.Proofs.Ytdpogggajdfedaa.Opens
open Go.RowKit Go.ChangeShapes Go.WideShapes Go.Proofs.YtdpogggajdfedaaW.PrintWords
set_option linter.unusedVariables false

theorem bulkAll_sum {H : Type} : ∀ l : List (DataW H), Rows.uptoBulkAll l = (l.map Rows.uptoBulk).sum
  | [] => rfl
  | d :: r => by simp [Rows.uptoBulkAll, bulkAll_sum r]

theorem weightsAll_mem {H : Type} {P : Program} {e : TypeId} : ∀ {l : List (DataW H)} {d : DataW H}, d ∈ l → ∀ n ∈ d.weights P e, n ∈ DataW.weightsAll P e l
  | x :: r, d, hd, n, hn => by
    simp only [DataW.weightsAll, List.mem_append]
    rcases List.mem_cons.1 hd with rfl | h
    · exact Or.inl hn
    · exact Or.inr (weightsAll_mem h n hn)

theorem list_of {α : Type} {p : Nat → α → Prop} : ∀ n, (∀ i, i < n → ∃ a, p i a) → ∃ l : List α, l.length = n ∧ ∀ i a, l[i]? = some a → p i a
  | 0, _ => ⟨[], rfl, by simp⟩
  | n + 1, h => by
    obtain ⟨l, hl, hp⟩ := list_of n (fun i hi => h i (by omega))
    obtain ⟨a, ha⟩ := h n (by omega)
    refine ⟨l ++ [a], by simp [hl], fun i b hb => ?_⟩
    by_cases hi : i < n
    · exact hp i b (by rw [List.getElem?_append_left (by omega)] at hb; exact hb)
    · rw [List.getElem?_append_right (by omega), hl] at hb
      obtain ⟨h0, rfl⟩ : i - n = 0 ∧ a = b := by
        by_cases h0 : i - n = 0
        · rw [h0] at hb
          exact ⟨h0, by simpa using hb⟩
        · obtain ⟨k, hk⟩ : ∃ k, i - n = k + 1 := ⟨i - n - 1, by omega⟩
          rw [hk] at hb
          simp at hb
      obtain rfl : i = n := by omega
      exact ha

/-- What reads as a datum of type t is told by kind d: the value is well formed, its sizes are bounded as the datum's weights are, its bulk is no more than the datum's. -/
def Opens (P : Program) (t : TypeId) {α : Type} (d : Kd α) (wf : α → Prop) (lens : α → List Nat) (bulk : α → Nat) : Prop :=
  ∀ (H : Type) (enc : TypeId × Value → H) (w : World) (base : Nat) (spare : Nat → Bool) (held : Bool) (fuel : Nat) (cs : List Value) (x : DataW H × List MemPlace),
    DataW.trod enc P w base spare held fuel t cs = some x → ∃ a, d.K w a cs ∧ wf a ∧ (∀ R, (∀ m ∈ x.1.weights P t, m ≤ R) → ∀ n ∈ lens a, n ≤ R) ∧ bulk a ≤ Rows.uptoBulk x.1

theorem opens_int {P : Program} {t : TypeId} {k : IntKind} (ht : P.underlying t = some (.int k)) : Opens P t (Kd.int k) (fun n => (Lit.int k n).wf = true) (fun _ => []) (fun _ => 1) := by
  intro H enc w base spare held fuel cs x h
  obtain ⟨n, rfl, rfl, hw⟩ := DataW.trod_int ht h
  exact ⟨n, rfl, hw, by simp, by simp [Rows.uptoBulk]⟩

theorem opens_bool {P : Program} {t : TypeId} (ht : P.underlying t = some .bool) : Opens P t Kd.bool (fun _ => True) (fun _ => []) (fun _ => 1) := by
  intro H enc w base spare held fuel cs x h
  obtain ⟨n, rfl, rfl⟩ := DataW.trod_bool ht h
  exact ⟨n, rfl, trivial, by simp, by simp [Rows.uptoBulk]⟩

theorem opens_string {P : Program} {t : TypeId} (ht : P.underlying t = some .string) : Opens P t Kd.string (fun s => s.size ≤ maxLen) (fun s => [s.size]) (fun s => s.size + 1) := by
  intro H enc w base spare held fuel cs x h
  obtain ⟨s, rfl, rfl, hs⟩ := DataW.trod_string ht h
  have e : s.data.toList.length = s.size := by rw [Array.length_toList]; rfl
  refine ⟨s, rfl, hs, ?_, ?_⟩
  · intro R hR n hn
    rw [List.mem_singleton] at hn
    subst hn
    rw [← e]
    exact hR _ (by simp only [DataW.weights, List.mem_singleton])
  · simp only [Rows.uptoBulk]
    rw [e]
    exact Nat.le_refl _

theorem opens_slice {P : Program} {t e : TypeId} {α : Type} {d : Kd α} {wf : α → Prop} {lens : α → List Nat} {bulk : α → Nat} {B : Nat} (ht : P.underlying t = some (.slice e)) (hc : P.cellsOf e = d.sz) (hB : P.bytesOf e = B) (he : Opens P e d wf lens bulk) :
    Opens P t (Kd.slice e d) (fun l => ∀ a ∈ l, wf a) (fun l => l.length * B :: l.flatMap lens) (fun l => (l.map bulk).sum + 1) := by
  intro H enc w base spare held fuel cs x h
  rcases Go.Deep.open_slice ht h with ⟨rfl, rfl⟩ | ⟨a, len, cap, m, n, D, Pl, rfl, hb, hl, hm, hmm, rfl, hx⟩
  · exact ⟨[], ⟨none, 0, rfl, Nat.le_refl _, rfl, by simp, fun h => absurd h (by simp)⟩, by simp, by simp, by simp [Rows.uptoBulk]⟩
  · have hlm : len ≤ m := by rw [hmm]; split <;> omega
    obtain ⟨l, hll, hp⟩ := list_of (p := fun i (y : α) => ∃ cs', w.cells? base (a.add (i * P.cellsOf e)) (P.cellsOf e) = some cs' ∧ d.K w y cs' ∧ wf y ∧ (∀ R, (∀ m ∈ (D i).weights P e, m ≤ R) → ∀ n ∈ lens y, n ≤ R) ∧ bulk y ≤ Rows.uptoBulk (D i)) len (fun i hi => by
      obtain ⟨cs', h1, h2⟩ := hx i (by omega)
      obtain ⟨y, k1, k2, k3, k4⟩ := he H enc w base spare held n cs' (D i, Pl i) h2
      exact ⟨y, cs', h1, k1, k2, k3, k4⟩)
    subst hll
    refine ⟨l, ⟨some a, cap, rfl, hl, rfl, ?_, fun _ => ⟨a, rfl, fun j p hj => ?_⟩⟩, ?_, ?_, ?_⟩
    · unfold maxLen at hm
      omega
    · obtain ⟨cs', h1, h2, _⟩ := hp j p hj
      refine ⟨cs', d.K_len h2, h2, fun i u hu => ?_⟩
      obtain ⟨_, hlen, hcell⟩ := World.cells?_some h1
      rw [hc] at hcell
      have hi : i < d.sz := by
        have := (List.getElem?_eq_some_iff.1 hu).1
        rw [d.K_len h2] at this
        exact this
      have := hcell i hi
      rw [hu] at this
      rw [Go.Deep.add_add] at this
      exact this
    · intro y hy
      obtain ⟨i, hi, hiy⟩ := List.getElem_of_mem hy
      obtain ⟨_, _, _, h3, _⟩ := hp i y (by rw [List.getElem?_eq_getElem hi, hiy])
      exact h3
    · intro R hR n hn
      rcases List.mem_cons.1 hn with rfl | hn
      · have := hR _ (by simp only [DataW.weights, ht]; exact List.mem_cons_self)
        simp only [List.length_map, List.length_range] at this
        rw [hB] at this
        exact Nat.le_trans (Nat.mul_le_mul_right _ (by omega)) this
      · obtain ⟨y, hy, hn⟩ := List.mem_flatMap.1 hn
        obtain ⟨i, hi, hiy⟩ := List.getElem_of_mem hy
        obtain ⟨_, _, _, _, h4, _⟩ := hp i y (by rw [List.getElem?_eq_getElem hi, hiy])
        refine h4 R (fun q hq => hR q ?_) n hn
        simp only [DataW.weights, ht]
        refine List.mem_cons_of_mem _ (List.mem_append.2 (Or.inl (weightsAll_mem (d := D i) ?_ q hq)))
        exact List.mem_map.2 ⟨i, by simpa using hi, rfl⟩
    · simp only [Rows.uptoBulk, bulkAll_sum, List.map_map]
      have key : ∀ (l : List α) (f : Nat → Nat) (o : Nat), (∀ i y, l[i]? = some y → bulk y ≤ f (o + i)) → (l.map bulk).sum ≤ ((List.range' o l.length).map f).sum := by
        intro l
        induction l with
        | nil => intro f o _; simp
        | cons z l ih =>
          intro f o hf
          have h0 := hf 0 z rfl
          have := ih f (o + 1) (fun i y hy => by have := hf (i + 1) y (by simpa using hy); rwa [show o + (i + 1) = o + 1 + i by omega] at this)
          simp only [List.map_cons, List.sum_cons, List.length_cons, List.range'_succ]
          simp only [Nat.add_zero] at h0
          omega
      have := key l (Rows.uptoBulk ∘ D) 0 (fun i y hy => by obtain ⟨_, _, _, _, _, h5⟩ := hp i y hy; simpa using h5)
      rw [← List.range_eq_range'] at this
      omega

/-- A struct's fields from one on: each is opened at its offset. -/
def OpensL (P : Program) (fs : List Field) (off n : Nat) {α : Type} (d : Kd α) (wf : α → Prop) (lens : α → List Nat) (bulk : α → Nat) : Prop :=
  ∀ (H : Type) (enc : TypeId × Value → H) (w : World) (base : Nat) (spare : Nat → Bool) (held : Bool) (fuel : Nat) (cs : List Value) (xs : List (DataW H × List MemPlace)), cs.length = n → xs.length = fs.length →
    (∀ (i : Nat) (f : Field), fs[i]? = some f → DataW.trod enc P w base spare held fuel f.type ((cs.drop f.offset).take (P.cellsOf f.type)) = xs[i]?) →
    ∃ a, d.K w a (cs.drop off) ∧ wf a ∧ (∀ R, (∀ m ∈ DataW.weightsEach P (fs.map (·.type)) (xs.map (·.1)), m ≤ R) → ∀ k ∈ lens a, k ≤ R) ∧ bulk a ≤ Rows.uptoBulkAll (xs.map (·.1))

theorem opensL_last {P : Program} {f : Field} {off n : Nat} {α : Type} {d : Kd α} {wf : α → Prop} {lens : α → List Nat} {bulk : α → Nat} (h : Opens P f.type d wf lens bulk) (ho : f.offset = off) (hn : off + P.cellsOf f.type = n) : OpensL P [f] off n d wf lens bulk := by
  intro H enc w base spare held fuel cs xs hc hx hf
  match xs, hx with
  | [x], _ =>
    have h0 := hf 0 f rfl
    simp only [List.getElem?_cons_zero] at h0
    obtain ⟨a, k1, k2, k3, k4⟩ := h H enc w base spare held fuel _ x h0
    refine ⟨a, ?_, k2, ?_, ?_⟩
    · rw [ho, List.take_of_length_le (by rw [List.length_drop]; omega)] at k1
      exact k1
    · simpa [DataW.weightsEach] using k3
    · simpa [Rows.uptoBulkAll] using k4

theorem opensL_cons {P : Program} {f : Field} {fs : List Field} {off n : Nat} {α β : Type} {d : Kd α} {wf : α → Prop} {lens : α → List Nat} {bulk : α → Nat} {d2 : Kd β} {wf2 : β → Prop} {lens2 : β → List Nat} {bulk2 : β → Nat}
    (h : Opens P f.type d wf lens bulk) (ho : f.offset = off) (hr : OpensL P fs (off + P.cellsOf f.type) n d2 wf2 lens2 bulk2) :
    OpensL P (f :: fs) off n (Kd.pair d d2) (fun a => wf a.1 ∧ wf2 a.2) (fun a => lens a.1 ++ lens2 a.2) (fun a => bulk a.1 + bulk2 a.2) := by
  intro H enc w base spare held fuel cs xs hc hx hf
  match xs, hx with
  | x :: xs, hx =>
    have h0 := hf 0 f rfl
    simp only [List.getElem?_cons_zero] at h0
    obtain ⟨a, k1, k2, k3, k4⟩ := h H enc w base spare held fuel _ x h0
    obtain ⟨b, l1, l2, l3, l4⟩ := hr H enc w base spare held fuel cs xs hc (by simpa using hx) (fun i g hg => by have := hf (i + 1) g (by simpa using hg); simpa using this)
    refine ⟨(a, b), ⟨_, _, ?_, k1, l1⟩, ⟨k2, l2⟩, ?_, ?_⟩
    · rw [ho, ← List.drop_drop, List.take_append_drop]
    · intro R hR k hk
      simp only [List.map_cons, DataW.weightsEach, List.mem_append] at hR
      rcases List.mem_append.1 hk with hk | hk
      · exact k3 R (fun m hm => hR m (Or.inl hm)) k hk
      · exact l3 R (fun m hm => hR m (Or.inr hm)) k hk
    · simp only [List.map_cons, Rows.uptoBulkAll]
      exact Nat.add_le_add k4 l4

theorem opens_struct {P : Program} {t : TypeId} {fs : Array Field} {n : Nat} {α : Type} {d : Kd α} {wf : α → Prop} {lens : α → List Nat} {bulk : α → Nat} (ht : P.underlying t = some (.struct fs)) (hn : P.cellsOf t = n) (h : OpensL P fs.toList 0 n d wf lens bulk) :
    Opens P t d wf lens (fun a => bulk a + 1) := by
  intro H enc w base spare held fuel cs x hx
  obtain ⟨xs, m, rfl, rfl, hl, hs, hf⟩ := DataW.trod_struct ht hx
  obtain ⟨a, k1, k2, k3, k4⟩ := h H enc w base spare held m cs xs (hl.trans hn) (by simpa using hs) (fun i f hi => hf i f (by simpa using hi))
  refine ⟨a, by simpa using k1, k2, fun R hR => k3 R (fun q hq => hR q ?_), ?_⟩
  · simp only [DataW.weights, ht]
    exact hq
  · simp only [Rows.uptoBulk]
    exact Nat.add_le_add_right k4 1

theorem opens_iso {P : Program} {t : TypeId} {α β : Type} {d : Kd α} {wf : α → Prop} {lens : α → List Nat} {bulk : α → Nat} {f : β → α} (g : α → β) (hfg : ∀ a, f (g a) = a) (h : Opens P t d wf lens bulk) :
    Opens P t (Kd.iso d f) (fun b => wf (f b)) (fun b => lens (f b)) (fun b => bulk (f b)) := by
  intro H enc w base spare held fuel cs x hx
  obtain ⟨a, k1, k2, k3, k4⟩ := h H enc w base spare held fuel cs x hx
  refine ⟨g a, ?_, ?_, ?_, ?_⟩
  · show d.K w (f (g a)) cs
    rw [hfg]
    exact k1
  · show wf (f (g a))
    rw [hfg]
    exact k2
  · show ∀ R, _ → ∀ n ∈ lens (f (g a)), n ≤ R
    rw [hfg]
    exact k3
  · show bulk (f (g a)) ≤ _
    rw [hfg]
    exact k4
end Go.Proofs.Ytdpogggajdfedaa.Opens
