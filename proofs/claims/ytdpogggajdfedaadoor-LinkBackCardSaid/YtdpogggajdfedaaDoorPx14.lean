-- Printed by this session's program wip/xp.py (a turned copy of the kit's printer): functions, their contracts.
import Derived.Test.YtdpogggajdfedaaDoorPx0
import Derived.Test.YtdpogggajdfedaaDoorLinkH
namespace Go.Proofs.YtdpogggajdfedaaDoor.P
open Go.RowKit Go.Proofs.YtdpogggajdfedaaDoorW.PrintWords Go.Proofs.YtdpogggajdfedaaDoorW.PrintLast Go.Proofs.YtdpogggajdfedaaDoorW.PrintMore
attribute [local go_sem] max2_int min2_int max_two min_two max_three min_three max_four min_four   -- for this text's walks alone
set_option linter.unusedVariables false
set_option linter.unusedSimpArgs false

-- NOT PRINTED: function 10 (link_New)

-- NOT PRINTED: function 11 (link_Link_Send)

/-! ### carillonlaw09_examples: function 5 -/
/-- The chapter's examples (walked by hand: LinkA to LinkH). -/
def carillonlaw09_examples.f : Option Bool := some true
theorem carillonlaw09_examples.calls (r : Bool) (w : World) (h : carillonlaw09_examples.f = some r) :
  Calls Tryd.prog 5 #[] w fun e w' => e = .returned (.bool r) ∧ Below w.heap.size w w' := by
 injection h with h
 subst h
 exact examples_calls w

end Go.Proofs.YtdpogggajdfedaaDoor.P
