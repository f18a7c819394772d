import Derived.Test.YtdpogggajdfedaaLinkZ
import Derived.Deep.CutBlock
import Derived.Deep.DeepCutAuto
import Derived.Deep.LoopGhost
import Derived.Outline
import Derived.Laws.BitsAllLaws
import Derived.WalkSpells
import Derived.StillTailTactics
namespace Go.Proofs.Ytdpogggajdfedaa.P
open Go.RowKit Go.Proofs.YtdpogggajdfedaaW.PrintWords Go.Proofs.YtdpogggajdfedaaW.PrintLast Go.Proofs.YtdpogggajdfedaaW.PrintMore
attribute [local go_sem] max2_int min2_int max_two min_two max_three min_three max_four min_four
set_option linter.unusedVariables false
set_option linter.unusedSimpArgs false
/-- Is a region the first of a code? -/
def leadsWith (n : Nat) : Code → Bool
  | .region k _ _ => k == n
  | .seq a _ => leadsWith n a
  | _ => false
/-- What a code does from a region on. -/
def fromRegion (n : Nat) : Code → Option Code
  | .seq a b => if leadsWith n a then some (.seq a b) else match fromRegion n a with
    | some c => some c
    | none => fromRegion n b
  | .block _ c => fromRegion n c
  | .loop c => fromRegion n c
  | .scope c => fromRegion n c
  | _ => none
noncomputable def anewTail : Code := (Try.f5.body.bind (fromRegion 48)).getD .skip
set_option maxHeartbeats 16000000 in
set_option maxRecDepth 100000 in
theorem anew_tail (q0 q1 q2 q3 q4 q7 q8 q9 q10 q16 q17 q18 q19 q20 q21 q22 q23 q24 q25 q26 q27 q28 q29 q30 q31 q32 q33 q34 q35 q36 q37 q38 q39 q40 q41 q42 q43 q44 q45 q46 q47 q48 q49 q50 q51 q52 q53 q54 q55 q56 q57 q58 q59 q60 q61 q62 q63 q64 q65 q66 q67 q68 q69 q70 q71 q72 q73 q74 q75 q76 q77 q78 q79 q80 q81 q82 q83 q84 q85 q86 q87 q88 q89 q90 q91 q92 q93 q94 q95 q96 q97 q98 q99 q100 q101 q102 q103 q104 q105 q106 q107 q108 q109 q110 q111 q112 q113 q114 q115 q116 q117 q118 q119 q120 q121 q122 q123 q124 q125 q126 q127 q128 q129 q130 q131 q132 q133 q134 q135 q136 q137 q138 q139 q140 q141 q142 q143 q144 q145 q146 q147 q148 q149 q150 q151 q152 q153 q154 q155 q156 q157 q158 q159 q160 q161 q162 q163 q164 q165 q166 q167 q168 q169 q170 q171 q172 q173 q174 q175 q176 q177 q178 q179 q180 q181 q182 q183 q184 q185 q186 q187 q188 q189 q190 q191 q192 q193 q194 q195 q196 q197 q198 q199 q200 q201 q202 q203 q204 q205 q206 q207 q208 q209 q210 q211 q212 q213 q214 q215 q216 q217 q218 q219 q220 q221 q222 q223 q224 q225 q226 q227 q228 q229 q230 q231 q232 q233 q234 q235 q236 q237 q238 q239 q240 q241 q242 q243 q244 q245 q246 q247 q248 q249 q250 q251 q252 q253 q254 q255 q256 q257 q258 q259 q260 q261 q262 q263 q264 q265 q266 q267 q268 q269 q270 q271 q272 q273 q274 q275 q276 q277 q278 q279 q280 q281 q282 q283 q284 q285 q286 q287 q288 q289 q290 q291 q292 q293 q294 q295 q296 q297 q298 q299 : Value) {w wc : World} {B : PB} {a : AnM} {At Ao Am As : Option Addr} {nt ct no co nm cm cs n0 fi rz : Nat} (HQ : Aside0 (AnIs w wc B a (.slice At nt ct) (.slice Ao no co) (.slice Am nm cm))) (HE : Aside0 (EndF B a As cs nt no nm n0 fi rz)) (hbt : nt ≤ 200) (hbo : no ≤ 200) (hbm : nm ≤ 200) (hb0 : n0 ≤ 200) (hfb : fi ≤ 200) (hrb : rz ≤ 1) :
    Code.wp Try.prog anewTail (bodyPost Try.prog Try.f5 fun e w' => e = Ending.returned (Value.bool true) ∧ Below w.heap.size w w') ⟨List.toArray (q0 :: q1 :: q2 :: q3 :: q4 :: .bool true :: .pointer (some ⟨B.gx, 0, none⟩) :: q7 :: q8 :: q9 :: q10 :: .int .i64 (fi : Int) :: .slice At nt ct :: .int .i64 (rz : Int) :: .slice Ao no co :: .slice Am nm cm :: q16 :: q17 :: q18 :: q19 :: q20 :: q21 :: q22 :: q23 :: q24 :: q25 :: q26 :: q27 :: q28 :: q29 :: q30 :: q31 :: q32 :: q33 :: q34 :: q35 :: q36 :: q37 :: q38 :: q39 :: q40 :: q41 :: q42 :: q43 :: q44 :: q45 :: q46 :: q47 :: q48 :: q49 :: q50 :: q51 :: q52 :: q53 :: q54 :: q55 :: q56 :: q57 :: q58 :: q59 :: q60 :: q61 :: q62 :: q63 :: q64 :: q65 :: q66 :: q67 :: q68 :: q69 :: q70 :: q71 :: q72 :: q73 :: q74 :: q75 :: q76 :: q77 :: q78 :: q79 :: q80 :: q81 :: q82 :: q83 :: q84 :: q85 :: q86 :: q87 :: q88 :: q89 :: q90 :: q91 :: q92 :: q93 :: q94 :: q95 :: q96 :: q97 :: q98 :: q99 :: q100 :: q101 :: q102 :: q103 :: q104 :: q105 :: q106 :: q107 :: q108 :: q109 :: q110 :: q111 :: q112 :: q113 :: q114 :: q115 :: q116 :: q117 :: q118 :: q119 :: q120 :: q121 :: q122 :: q123 :: q124 :: q125 :: q126 :: q127 :: q128 :: q129 :: q130 :: q131 :: q132 :: q133 :: q134 :: q135 :: q136 :: q137 :: q138 :: q139 :: q140 :: q141 :: q142 :: q143 :: q144 :: q145 :: q146 :: q147 :: q148 :: q149 :: q150 :: q151 :: q152 :: q153 :: q154 :: q155 :: q156 :: q157 :: q158 :: q159 :: q160 :: q161 :: q162 :: q163 :: q164 :: q165 :: q166 :: q167 :: q168 :: q169 :: q170 :: q171 :: q172 :: q173 :: q174 :: q175 :: q176 :: q177 :: q178 :: q179 :: q180 :: q181 :: q182 :: q183 :: q184 :: q185 :: q186 :: q187 :: q188 :: q189 :: q190 :: q191 :: q192 :: q193 :: q194 :: q195 :: q196 :: q197 :: q198 :: q199 :: q200 :: q201 :: q202 :: q203 :: q204 :: q205 :: q206 :: q207 :: q208 :: q209 :: q210 :: q211 :: q212 :: q213 :: q214 :: q215 :: q216 :: q217 :: q218 :: q219 :: q220 :: q221 :: q222 :: q223 :: q224 :: q225 :: q226 :: q227 :: q228 :: q229 :: q230 :: q231 :: q232 :: q233 :: q234 :: q235 :: q236 :: q237 :: q238 :: q239 :: q240 :: q241 :: q242 :: q243 :: q244 :: q245 :: q246 :: q247 :: q248 :: q249 :: q250 :: q251 :: q252 :: q253 :: q254 :: q255 :: q256 :: q257 :: q258 :: q259 :: q260 :: q261 :: q262 :: q263 :: q264 :: q265 :: q266 :: q267 :: q268 :: q269 :: q270 :: q271 :: q272 :: q273 :: q274 :: q275 :: q276 :: q277 :: q278 :: q279 :: q280 :: q281 :: q282 :: q283 :: q284 :: q285 :: q286 :: q287 :: q288 :: q289 :: q290 :: q291 :: q292 :: q293 :: q294 :: q295 :: q296 :: q297 :: q298 :: q299 :: []), []⟩ wc := by
  conv => arg 2; whnf
  have v0 := HQ.out.P.at_s 0 (by decide)
  rw [HE.out.sv] at v0
  obtain ⟨x0, x1, x2, x3, _, _, _, _⟩ := bx4 HQ.out.P.X
  have hz1 : decide ((1 : Int) < (rz : Int)) = false := decide_eq_false (by omega)
  go_upto_region 48 with fail
  go_cut [251] (fun v251 W => v251 = .bool false ∧ Aside0 (AnIs w W B a (.slice At nt ct) (.slice Ao no co) (.slice Am nm cm)))
  case first =>
    by_cases hrz : 1 ≤ rz
    · have hgd : decide ((n0 : Int) - (fi : Int) < (nt : Int)) = false := decide_eq_false (HE.out.gap hrz)
      go_wp2
      go_meet
      case rel => exact ⟨rfl, HQ⟩
    · have hz0 : decide ((0 : Int) < (rz : Int)) = false := decide_eq_false (by omega)
      have hz0n : decide (0 < rz) = false := decide_eq_false (by omega)
      have hz0r : rz ≤ 0 := by omega
      clear hrz
      by_cases hg_ : (n0 : Int) - (fi : Int) < (nt : Int)
      · have hgd : decide ((n0 : Int) - (fi : Int) < (nt : Int)) = true := decide_eq_true hg_
        go_wp2
        go_meet
        case rel => exact ⟨rfl, HQ⟩
      · have hgd : decide ((n0 : Int) - (fi : Int) < (nt : Int)) = false := decide_eq_false hg_
        go_wp2
        go_meet
        case rel => exact ⟨rfl, HQ⟩
  case rest =>
    obtain ⟨rfl, HQ_⟩ := hcut
    clear HQ v0 x0 x1 x2 x3
    have HQ := HQ_
    clear HQ_
    go_upto_block 5 with fail
    go_cut [] (fun W => Aside0 (AnIs w W B a (.slice At nt ct) (.slice Ao no co) (.slice Am nm cm)))
    case first =>
      by_cases hrz : 1 ≤ rz
      · have hz0 : decide ((0 : Int) < (rz : Int)) = true := decide_eq_true (by omega)
        have hz0n : decide (0 < rz) = true := decide_eq_true (by omega)
        have hz0r : 1 ≤ rz := hrz
        clear hrz
        go_wp2_with fail
        go_loopg [23] (nt + 1) (fun kq v23 W => ∃ (j : Nat), j ≤ nt ∧ v23 = .int .i64 (j : Int) ∧ nt - j < kq ∧ Aside0 (AnIs w W B a (.slice At nt ct) (.slice Ao no co) (.slice Am nm cm)))
        case atStart => exact ⟨0, Nat.zero_le _, rfl, by omega, HQ⟩
        case round =>
          obtain ⟨j, hj, rfl, hq, HQ5⟩ := hrel
          clear HQ
          by_cases hjl : j < nt
          · have hjd : decide ((j : Int) < (nt : Int)) = true := decide_eq_true (by omega)
            obtain ⟨x0, x1, x2, x3, _, _, _, _⟩ := bx4 HQ5.out.P.X
            have v0 := HQ5.out.P.at_s 0 (by decide)
            rw [HE.out.sv] at v0
            obtain ⟨ad, ad2, st, q, rfl, rfl, hs1, hs2, hst2, hfq, hq64, hjI, hqI, hqI0, hjI0, hqn⟩ := HE.out.five HQ5.out hz0r hjl hb0
            clear hq64
            go_wp2
            go_quiet (fail)
            go_wp2
            go_roundg (nt - j)
            case rel => exact ⟨j + 1, by omega, by first | go_num | (congr 1; omega) | rfl, by omega, ⟨HQ5.out.drewN _⟩⟩
            case measure => omega
          · have hjd : decide ((j : Int) < (nt : Int)) = false := decide_eq_false (by omega)
            go_wp2
            go_meet
            case rel => exact HQ5
      · have hz0 : decide ((0 : Int) < (rz : Int)) = false := decide_eq_false (by omega)
        have hz0n : decide (0 < rz) = false := decide_eq_false (by omega)
        have hz0r : rz ≤ 0 := by omega
        clear hrz
        go_wp2_with fail
        go_loopg [23] (nt + 1) (fun kq v23 W => ∃ (j : Nat), j ≤ nt ∧ v23 = .int .i64 (j : Int) ∧ nt - j < kq ∧ Aside0 (AnIs w W B a (.slice At nt ct) (.slice Ao no co) (.slice Am nm cm)))
        case atStart => exact ⟨0, Nat.zero_le _, rfl, by omega, HQ⟩
        case round =>
          obtain ⟨j, hj, rfl, hq, HQ5⟩ := hrel
          clear HQ
          by_cases hjl : j < nt
          · have hjd : decide ((j : Int) < (nt : Int)) = true := decide_eq_true (by omega)
            go_wp2
            go_meet
            case rel => exact HQ5
          · have hjd : decide ((j : Int) < (nt : Int)) = false := decide_eq_false (by omega)
            go_wp2
            go_meet
            case rel => exact HQ5
    case rest =>
      clear HQ
      have HQ := hcut
      clear hcut
      go_wp2
      go_loopg [24] (nm + 1) (fun kq v24 W => ∃ (j : Nat), j ≤ nm ∧ v24 = .int .i64 (j : Int) ∧ nm - j < kq ∧ Aside0 (AnIs w W B a (.slice At nt ct) (.slice Ao no co) (.slice Am nm cm)))
      case atStart => exact ⟨0, Nat.zero_le _, rfl, by omega, HQ⟩
      case round =>
        obtain ⟨j, hj, rfl, hq, HQ7⟩ := hrel
        clear HQ
        by_cases hjl : j < nm
        · obtain ⟨ad, ad2, st, rfl, rfl, hs1, hs2, hst2, hjI, hjI2, hjI0, hjd, hjdn, hjn⟩ := HE.out.seven HQ7.out hjl
          go_wp2
          go_quiet (fail)
          go_wp2
          go_roundg (nm - j)
          case rel => exact ⟨j + 1, by omega, by first | go_num | (congr 1; omega) | rfl, by omega, ⟨HQ7.out.drewN _⟩⟩
          case measure => omega
        · have hd3 : decide ((j : Int) < (nm : Int)) = false := decide_eq_false (by omega)
          go_wp2
          go_ret
          exact ⟨rfl, HQ7.out.P.two.Bl⟩

end Go.Proofs.Ytdpogggajdfedaa.P
