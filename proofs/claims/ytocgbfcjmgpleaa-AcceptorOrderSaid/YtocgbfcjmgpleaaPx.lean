-- Printed by this session's program wip/xp.py (a turned copy of the kit's printer): functions, their contracts.
import Derived.Test.YtocgbfcjmgpleaaPx0
import Derived.Test.YtocgbfcjmgpleaaPx1
import Derived.Test.YtocgbfcjmgpleaaPx2
import Derived.Test.YtocgbfcjmgpleaaPx3
import Derived.Test.YtocgbfcjmgpleaaPx4
import Derived.Test.YtocgbfcjmgpleaaPx5
import Derived.Test.YtocgbfcjmgpleaaPx6
import Derived.Test.YtocgbfcjmgpleaaPx7
import Derived.Test.YtocgbfcjmgpleaaPx8
import Derived.Test.YtocgbfcjmgpleaaPx9
import Derived.Test.YtocgbfcjmgpleaaPx10
namespace Go.Proofs.Ytocgbfcjmgpleaa.P
open Go.RowKit Go.Proofs.YtocgbfcjmgpleaaW.PrintWords Go.Proofs.YtocgbfcjmgpleaaW.PrintLast Go.Proofs.YtocgbfcjmgpleaaW.PrintMore
attribute [local go_sem] max2_int min2_int max_two min_two max_three min_three max_four min_four   -- for this text's walks alone
set_option linter.unusedVariables false
set_option linter.unusedSimpArgs false

end Go.Proofs.Ytocgbfcjmgpleaa.P
