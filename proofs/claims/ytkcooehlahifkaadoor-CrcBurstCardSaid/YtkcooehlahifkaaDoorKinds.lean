/- The laws' own struct types, opened: what is well formed, its sizes, its bulk. Printed by wip/genrow.py. -/
import Derived.Test.YtkcooehlahifkaaDoorPx0
import Derived.Test.YtkcooehlahifkaaDoorOpens
namespace Go.Proofs.YtkcooehlahifkaaDoor.P
open Go.RowKit Go.Proofs.YtkcooehlahifkaaDoorW.PrintWords Go.Proofs.YtkcooehlahifkaaDoor.Opens
set_option linter.unusedVariables false
end Go.Proofs.YtkcooehlahifkaaDoor.P
