-- PRINTED BY print.sh 35421559b90ae4d0a3588c463048766b98c2d; shaken by wip/shake.py
import Derived.Test.YtbcpjegakjcmgaaDoorWInv
import Derived.Test.YtbcpjegakjcmgaaDoorWFootNe
namespace Go.Proofs.YtbcpjegakjcmgaaDoorW.PrintWords
open Go.RowKit
end Go.Proofs.YtbcpjegakjcmgaaDoorW.PrintWords
namespace Go.Proofs.YtbcpjegakjcmgaaDoorW.PrintLast
section
variable {ops : Array Oper} {a : Act} {o og : Oper} {g : Nat} {t : Tmp} {u : Bool}
end
end Go.Proofs.YtbcpjegakjcmgaaDoorW.PrintLast
