/- The program reads a written view. -/
import Derived.Test.YtokebimfflobbaaDoorPx7
import Derived.Test.YtokebimfflobbaaDoorPlainVB
import Derived.Test.YtokebimfflobbaaDoorPlainCS
namespace Go.Proofs.YtokebimfflobbaaDoor.P
open Go.RowKit Go.Proofs.YtokebimfflobbaaDoorW.PrintWords Go.Proofs.YtokebimfflobbaaDoorW.PrintLast Go.Proofs.YtokebimfflobbaaDoorW.PrintMore
set_option linter.unusedSimpArgs false
set_option linter.unusedVariables false
set_option maxRecDepth 100000
theorem cf_is (l : List S58) (h : l.length < 4611686018427387904) : api_Item_31.f l (.func (.func 32) #[] #[]) = some (l.any grt) := by
  show (if _ ∧ _ then some (l.any grt) else none) = _
  rw [if_pos ⟨rfl, h⟩]
theorem mPlain_len (ms : List S47) : (mPlain ms).length = 2 * ms.length := by
  have := congrArg List.length (mPlain_kinds ms)
  rw [List.length_map] at this
  rw [this]
  simp
  omega
theorem vItems_of {num : Int} {ms : List S47} (h : ViewP num ms = true) : vItems num ms = ⟨3, num, ⟨#[]⟩⟩ :: mPlain ms := by
  obtain ⟨h1, h2, h3, _⟩ := viewP_parts h
  unfold vItems
  rw [wrapU (by omega) (by omega), mItems_plain ms (vr_all ms _ h1)]
theorem vItems_enc {num : Int} {ms : List S47} (h : ViewP num ms = true) : ∃ e, encAll (mPlain ms) = .ok e ∧ encAll (vItems num ms) = .ok (beI num 8 ++ e) := by
  obtain ⟨h1, h2, h3, _⟩ := viewP_parts h
  obtain ⟨e, he⟩ := mPlain_enc ms (vr_all ms _ h1)
  refine ⟨e, he, ?_⟩
  rw [vItems_of h]
  simp only [encAll, encL, he]
theorem vdec_enc {num : Int} {ms : List S47} (h : ViewP num ms = true) {e : List Int} (he : encAll (mPlain ms) = .ok e) (hz : (strOfNums (beI num 8 ++ e)).size ≤ 1000000000000000) (k : Nat) (hk : 6100 ≤ k) : view_Decode.f k (strOfNums (beI num 8 ++ e)) = some (num, ms, 0) := by
  obtain ⟨h1, h2, h3, h4, h5⟩ := viewP_parts h
  have hall := vr_all ms _ h1
  have hw : ∀ x ∈ vItems num ms, WfI x := vItems_wf num ms
  rw [vItems_of h] at hw
  have hd : decodeS [108, 42, 98, 108] (strOfNums (beI num 8 ++ e)) = (⟨3, num, ⟨#[]⟩⟩ :: mPlain ms, 0) := by
    unfold decodeS
    rw [show parseS [108, 42, 98, 108] = some ([3], [1, 3]) by decide]
    dsimp only
    have d1 := dec_enc [1, 3] (toU e) [⟨3, num, ⟨#[]⟩⟩] (beI num 8) 1000 [] [] (strOfNums (beI num 8 ++ e)) (fun x hx => hw x (by
      obtain rfl := List.mem_singleton.1 hx
      exact List.mem_cons_self ..)) (by simp only [encAll, encL, List.append_nil]) (show 1 ≤ 1000 by decide) (by rw [son_data, toU_append])
    have d2 := dec_enc_star [1, 3] (by decide) ms.length (mPlain ms) e 999 [⟨3, num, ⟨#[]⟩⟩] ⟨(toU e).toArray⟩ (fun x hx => hw x (List.mem_cons_of_mem _ hx)) he (mPlain_kinds ms) (by rw [mPlain_len]; omega) rfl
    exact d1.trans d2
  have hg : (⟨3, num, ⟨#[]⟩⟩ :: mPlain ms : List S58).any grt = false := by
    rw [List.any_eq_false]
    intro x hx
    have : x.f1 ≤ 9007199254740991 := by
      rcases List.mem_cons.1 hx with rfl | hx
      · exact h3
      · unfold mPlain at hx
        obtain ⟨m, hm, hx⟩ := List.mem_flatMap.1 hx
        have hr := hall m hm
        unfold RM at hr
        simp only [List.mem_cons, List.not_mem_nil, or_false] at hx
        rcases hx with rfl | rfl
        · show m.f0 ≤ _; omega
        · show m.f1 ≤ _; omega
    unfold grt
    simp
    omega
  unfold view_Decode.f
  rw [decode_is _ _ (by decide) hz k (by omega)]
  simp only [Option.bind_some]
  rw [hd]
  dsimp only
  rw [if_pos rfl, cf_is _ (by rw [List.length_cons, mPlain_len]; omega), hg]
  simp only [Option.bind_some]
  rw [if_neg (by decide), if_pos (by rw [List.length_cons]; omega)]
  rw [show rd_T58 (⟨3, num, ⟨#[]⟩⟩ :: mPlain ms) 0 = ⟨3, num, ⟨#[]⟩⟩ from rfl]
  dsimp only
  rw [wrap64_id (by omega) (by omega)]
  have := vdec_loop num ms hall h5 ⟨3, num, ⟨#[]⟩⟩ ms.length 0 k (by omega) (by omega)
  rw [if_pos h] at this
  exact this
end Go.Proofs.YtokebimfflobbaaDoor.P
