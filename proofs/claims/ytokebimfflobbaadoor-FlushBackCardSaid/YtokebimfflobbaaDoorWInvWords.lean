-- PRINTED BY print.sh 35421559b90ae4d0a3588c463048766b98c2d; shaken by wip/shake.py
import Derived.Test.YtokebimfflobbaaDoorWInv
import Derived.Test.YtokebimfflobbaaDoorWFootNe
namespace Go.Proofs.YtokebimfflobbaaDoorW.PrintWords
open Go.RowKit
end Go.Proofs.YtokebimfflobbaaDoorW.PrintWords
namespace Go.Proofs.YtokebimfflobbaaDoorW.PrintLast
section
variable {ops : Array Oper} {a : Act} {o og : Oper} {g : Nat} {t : Tmp} {u : Bool}
end
end Go.Proofs.YtokebimfflobbaaDoorW.PrintLast
