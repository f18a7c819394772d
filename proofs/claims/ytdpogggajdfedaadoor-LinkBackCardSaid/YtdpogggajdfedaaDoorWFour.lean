-- PRINTED BY print.sh 35421559b90ae4d0a3588c463048766b98c2d; shaken by wip/shake.py
import Derived.Test.YtdpogggajdfedaaDoorWTab
namespace Go.Proofs.YtdpogggajdfedaaDoorW.PrintLast
section
variable {P : Program} {ops : Array Oper} {Q : Exit → Act → World → Prop} {md : Region.Mode} {S : World → Prop} {ds : List Nat} {T : Bool × List (List Nat × List Nat)}
end
end Go.Proofs.YtdpogggajdfedaaDoorW.PrintLast
