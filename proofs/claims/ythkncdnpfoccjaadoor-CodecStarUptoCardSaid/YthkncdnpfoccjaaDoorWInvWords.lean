-- PRINTED BY print.sh 35421559b90ae4d0a3588c463048766b98c2d; shaken by wip/shake.py
import Derived.Test.YthkncdnpfoccjaaDoorWInv
import Derived.Test.YthkncdnpfoccjaaDoorWFootNe
namespace Go.Proofs.YthkncdnpfoccjaaDoorW.PrintWords
open Go.RowKit
end Go.Proofs.YthkncdnpfoccjaaDoorW.PrintWords
namespace Go.Proofs.YthkncdnpfoccjaaDoorW.PrintLast
section
variable {ops : Array Oper} {a : Act} {o og : Oper} {g : Nat} {t : Tmp} {u : Bool}
end
end Go.Proofs.YthkncdnpfoccjaaDoorW.PrintLast
