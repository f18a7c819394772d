-- Printed by this session's program wip/xp.py (a turned copy of the kit's printer): functions, their contracts.
import Derived.Test.YtnmcknfkmelnbaaDoorPx0
namespace Go.Proofs.YtnmcknfkmelnbaaDoor.P
open Go.RowKit Go.Proofs.YtnmcknfkmelnbaaDoorW.PrintWords Go.Proofs.YtnmcknfkmelnbaaDoorW.PrintLast Go.Proofs.YtnmcknfkmelnbaaDoorW.PrintMore
attribute [local go_sem] max2_int min2_int max_two min_two max_three min_three max_four min_four   -- for this text's walks alone
set_option linter.unusedVariables false
set_option linter.unusedSimpArgs false

theorem run_equalIn_array2_89 {P : Program} {d : Nat} {t e : TypeId} {a b c f : Value} {r s : Bool} {w : World} (hu : P.underlying t = some (.array 2 e)) (hs : (sizeOf e).run P w = .ok 1 w)
  (ha : (part e #[a, b] 0).run P w = .ok a w) (hb : (part e #[a, b] 1).run P w = .ok b w) (hc : (part e #[c, f] 0).run P w = .ok c w) (hf : (part e #[c, f] 1).run P w = .ok f w)
  (h1 : (Op.equalIn d e a c).run P w = .ok r w) (h2 : (Op.equalIn d e b f).run P w = .ok s w) :
  (Op.equalIn (d + 1) t (.agg #[a, b]) (.agg #[c, f])).run P w = .ok (r && s) w := by
 simp only [Op.equalIn, Sem.run_bind, run_underlying hu, Result.andThen_ok, hs]
 have e2 : List.range' 0 2 = [0, 1] := rfl
 simp [e2, ha, hb, hc, hf, h1, h2]
 cases r
 ·simp
 ·simp
  cases s <;> simp
theorem eqA89 (d : Nat) (w : World) (x0 x1 y0 y1 : Int) :
  (Op.equalIn (d + 2) 89 (.agg #[.int .i64 x0, .int .i64 x1]) (.agg #[.int .i64 y0, .int .i64 y1])).run Tryd.prog w = .ok (x0 == y0 && (x1 == y1)) w :=
 run_equalIn_array2_89 Tryd.underlying89 (by kernel_rfl) (by go_simp) (by go_simp) (by go_simp) (by go_simp) (by go_simp) (by go_simp)
end Go.Proofs.YtnmcknfkmelnbaaDoor.P
