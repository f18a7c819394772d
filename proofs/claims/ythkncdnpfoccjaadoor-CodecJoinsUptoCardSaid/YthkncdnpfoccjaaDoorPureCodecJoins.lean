import Derived.Test.YthkncdnpfoccjaaDoorKinds
import Derived.Test.YthkncdnpfoccjaaDoorPx10
import Derived.Test.YthkncdnpfoccjaaDoorPlainW
import Derived.Test.YthkncdnpfoccjaaDoorPlainF
namespace Go.Proofs.YthkncdnpfoccjaaDoor.P
open Go.RowKit Go.Proofs.YthkncdnpfoccjaaDoorW.PrintWords
set_option linter.unusedVariables false
set_option linter.unusedSimpArgs false
set_option maxRecDepth 100000
def carillonlaw01_CodecJoins.PureUpto : Prop := ∀ (x0 : List S32) (x1 : List S32), (fun l : List S32 => ∀ a ∈ l, wf32 a) x0 → (∀ n ∈ (fun l : List S32 => l.length * 32 :: l.flatMap lens32) x0, n ≤ 140737488351232) → (fun l : List S32 => ∀ a ∈ l, wf32 a) x1 → (∀ n ∈ (fun l : List S32 => l.length * 32 :: l.flatMap lens32) x1, n ≤ 140737488351232) → (fun l : List S32 => (l.map bulk32).sum + 1) x0 + (fun l : List S32 => (l.map bulk32).sum + 1) x1 ≤ 1048576 → ∃ k, carillonlaw01_CodecJoins.f k x0 x1 = some true
theorem CodecJoins : carillonlaw01_CodecJoins.PureUpto := by
  intro a b hwa hna hwb hnb hb
  obtain ⟨hA, hLa⟩ := wfI_of a hwa hna
  obtain ⟨hB, hLb⟩ := wfI_of b hwb hnb
  have ka := bulk_len a
  have kb := bulk_len b
  dsimp only at hb
  have hAB : ∀ x ∈ a ++ b, WfI x := by
    intro x hx
    rcases List.mem_append.1 hx with hx | hx
    · exact hA x hx
    · exact hB x hx
  have hlen : (a ++ b).length = a.length + b.length := List.length_append
  refine ⟨6008, ?_⟩
  unfold carillonlaw01_CodecJoins.f
  rw [show carillonlaw01_examples.f = some true from rfl]
  simp only [Option.bind_some, List.nil_append, List.length_nil]
  rw [if_pos (by omega)]
  rw [if_pos (by omega), encode_is a hA 6008 (by omega), encode_is b hB 6008 (by omega)]
  simp only [Option.bind_some]
  rw [encode_is (a ++ b) hAB 6008 (by omega), shape_f a (by omega), shape_f b (by omega)]
  simp only [Option.bind_some]
  rw [shape_f (a ++ b) (by omega)]
  simp only [Option.bind_some]
  have hshape : (if true = true then (if (if a.all shOk = true then ((⟨(a.map shB).toArray⟩ : ByteArray), (0 : Int)) else (⟨#[]⟩, 1)).2 = 0 then (if (if b.all shOk = true then ((⟨(b.map shB).toArray⟩ : ByteArray), (0 : Int)) else (⟨#[]⟩, 1)).2 = 0 then (if (if a.all shOk = true then ((⟨(a.map shB).toArray⟩ : ByteArray), (0 : Int)) else (⟨#[]⟩, 1)).1.size + (if b.all shOk = true then ((⟨(b.map shB).toArray⟩ : ByteArray), (0 : Int)) else (⟨#[]⟩, 1)).1.size ≤ 9223372036854775807 then (if (if (a ++ b).all shOk = true then ((⟨((a ++ b).map shB).toArray⟩ : ByteArray), (0 : Int)) else (⟨#[]⟩, 1)).1.toList = ((if a.all shOk = true then ((⟨(a.map shB).toArray⟩ : ByteArray), (0 : Int)) else (⟨#[]⟩, 1)).1 ++ (if b.all shOk = true then ((⟨(b.map shB).toArray⟩ : ByteArray), (0 : Int)) else (⟨#[]⟩, 1)).1).toList then (some ((if (a ++ b).all shOk = true then ((⟨((a ++ b).map shB).toArray⟩ : ByteArray), (0 : Int)) else (⟨#[]⟩, 1)).2 == 0)) else (some false)) else (none)) else (some true)) else (some true)) else (some false)) = some true := by
    rw [if_pos rfl, List.all_append]
    by_cases sa : a.all shOk = true
    · rw [if_pos sa, sa, Bool.true_and]
      by_cases sb : b.all shOk = true
      · rw [if_pos sb]
        have e : (⟨((a ++ b).map shB).toArray⟩ : ByteArray) = ⟨(a.map shB).toArray⟩ ++ ⟨(b.map shB).toArray⟩ := ba_eq (by rw [ByteArray.data_append]; simp)
        have z1 : (⟨(a.map shB).toArray⟩ : ByteArray).size = a.length := by rw [← data_len]; simp
        have z2 : (⟨(b.map shB).toArray⟩ : ByteArray).size = b.length := by rw [← data_len]; simp
        dsimp only
        rw [e, sb, z1, z2, if_pos rfl, if_pos rfl, if_pos (by omega), if_pos rfl]
        simp
      · rw [if_neg sb, if_pos rfl, if_neg (by decide)]
    · rw [if_neg sa, if_neg (by decide)]
  rcases encS_cases a with ⟨m, h1, hl, h3⟩ | ⟨e, h1, h3⟩
  · rw [h3]
    dsimp only
    rw [if_pos rfl]
    rcases encS_cases b with ⟨m2, g1, gl, g3⟩ | ⟨e, g1, g3⟩
    · rw [g3]
      dsimp only
      rw [if_pos rfl]
      by_cases hk : (((a ++ b).length : Nat) : Int) ≤ 1000
      · rw [if_pos hk]
        have hz1 := (enc_shOk a m h1).2
        have hz2 := (enc_shOk b m2 g1).2
        have hall : encAll (a ++ b) = .ok (m ++ m2) := by rw [encAll_append, h1, g1]
        rw [encS_of hall (by omega), son_append, son_size, son_size, if_pos (by omega), if_pos rfl]
        dsimp only
        rw [if_pos rfl]
        exact hshape
      · rw [if_neg hk]
        exact hshape
    · rw [g3]
      dsimp only
      rw [if_neg (by omega)]
      exact hshape
  · rw [h3]
    dsimp only
    rw [if_neg (by omega)]
    have hne : (encS (a ++ b)).2 ≠ 0 := by
      rcases encS_cases (a ++ b) with ⟨m, g1, gl, g3⟩ | ⟨e2, g1, g3⟩
      · exfalso
        rw [encAll_append] at g1
        cases ha : encAll a with
        | error e => rw [ha] at g1; cases g1
        | ok ma =>
          have := encS_of ha (by omega)
          rw [h3] at this
          have := congrArg Prod.snd this
          dsimp only at this
          omega
      · rw [g3]; dsimp only; omega
    rw [if_neg hne]
    exact hshape
end Go.Proofs.YthkncdnpfoccjaaDoor.P
