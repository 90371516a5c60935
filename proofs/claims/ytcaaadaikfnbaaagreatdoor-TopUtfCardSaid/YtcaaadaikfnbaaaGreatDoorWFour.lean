/- Words of the printer. -/
import Derived.Test.YtcaaadaikfnbaaaGreatDoorWTab
set_option linter.all false
namespace Go.Proofs.YtcaaadaikfnbaaaGreatDoorW.PrintLast
section
variable {P : Program} {ops : Array Oper} {Q : Exit → Act → World → Prop} {md : Region.Mode} {S : World → Prop} {ds : List Nat} {T : Bool × List (List Nat × List Nat)}
end
end Go.Proofs.YtcaaadaikfnbaaaGreatDoorW.PrintLast
