-- PRINTED BY print.sh 35421559b90ae4d0a3588c463048766b98c2d; shaken by wip/shake.py
import Derived.Test.YtdpogggajdfedaaDoorWInv
import Derived.Test.YtdpogggajdfedaaDoorWFootNe
namespace Go.Proofs.YtdpogggajdfedaaDoorW.PrintWords
open Go.RowKit
end Go.Proofs.YtdpogggajdfedaaDoorW.PrintWords
namespace Go.Proofs.YtdpogggajdfedaaDoorW.PrintLast
section
variable {ops : Array Oper} {a : Act} {o og : Oper} {g : Nat} {t : Tmp} {u : Bool}
end
end Go.Proofs.YtdpogggajdfedaaDoorW.PrintLast
