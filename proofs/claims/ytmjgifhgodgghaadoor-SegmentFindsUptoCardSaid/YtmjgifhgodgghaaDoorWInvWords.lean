-- PRINTED BY print.sh 35421559b90ae4d0a3588c463048766b98c2d; shaken by wip/shake.py
import Derived.Test.YtmjgifhgodgghaaDoorWInv
import Derived.Test.YtmjgifhgodgghaaDoorWFootNe
namespace Go.Proofs.YtmjgifhgodgghaaDoorW.PrintWords
open Go.RowKit
end Go.Proofs.YtmjgifhgodgghaaDoorW.PrintWords
namespace Go.Proofs.YtmjgifhgodgghaaDoorW.PrintLast
section
variable {ops : Array Oper} {a : Act} {o og : Oper} {g : Nat} {t : Tmp} {u : Bool}
end
end Go.Proofs.YtmjgifhgodgghaaDoorW.PrintLast
