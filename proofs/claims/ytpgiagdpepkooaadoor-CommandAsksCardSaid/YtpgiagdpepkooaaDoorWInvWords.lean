-- PRINTED BY print.sh 35421559b90ae4d0a3588c463048766b98c2d; shaken by wip/shake.py
import Derived.Test.YtpgiagdpepkooaaDoorWInv
import Derived.Test.YtpgiagdpepkooaaDoorWFootNe
namespace Go.Proofs.YtpgiagdpepkooaaDoorW.PrintWords
open Go.RowKit
end Go.Proofs.YtpgiagdpepkooaaDoorW.PrintWords
namespace Go.Proofs.YtpgiagdpepkooaaDoorW.PrintLast
section
variable {ops : Array Oper} {a : Act} {o og : Oper} {g : Nat} {t : Tmp} {u : Bool}
end
end Go.Proofs.YtpgiagdpepkooaaDoorW.PrintLast
