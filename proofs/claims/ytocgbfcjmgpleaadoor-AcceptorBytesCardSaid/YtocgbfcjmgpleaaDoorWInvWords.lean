-- PRINTED BY print.sh 35421559b90ae4d0a3588c463048766b98c2d; shaken by wip/shake.py
import Derived.Test.YtocgbfcjmgpleaaDoorWInv
import Derived.Test.YtocgbfcjmgpleaaDoorWFootNe
namespace Go.Proofs.YtocgbfcjmgpleaaDoorW.PrintWords
open Go.RowKit
end Go.Proofs.YtocgbfcjmgpleaaDoorW.PrintWords
namespace Go.Proofs.YtocgbfcjmgpleaaDoorW.PrintLast
section
variable {ops : Array Oper} {a : Act} {o og : Oper} {g : Nat} {t : Tmp} {u : Bool}
end
end Go.Proofs.YtocgbfcjmgpleaaDoorW.PrintLast
