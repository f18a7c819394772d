-- PRINTED BY print.sh 35421559b90ae4d0a3588c463048766b98c2d; shaken by wip/shake.py
import Derived.Test.YtbcpjegakjcmgaaWInv
import Derived.Test.YtbcpjegakjcmgaaWFootNe
namespace Go.Proofs.YtbcpjegakjcmgaaW.PrintWords
open Go.RowKit
end Go.Proofs.YtbcpjegakjcmgaaW.PrintWords
namespace Go.Proofs.YtbcpjegakjcmgaaW.PrintLast
section
variable {ops : Array Oper} {a : Act} {o og : Oper} {g : Nat} {t : Tmp} {u : Bool}
end
end Go.Proofs.YtbcpjegakjcmgaaW.PrintLast
