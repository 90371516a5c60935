/- Words of the printer. -/
import Derived.Test.YtcaaadaikfnbaaaGreatDoorWInv
import Derived.Test.YtcaaadaikfnbaaaGreatDoorWFootNe
set_option linter.all false
namespace Go.Proofs.YtcaaadaikfnbaaaGreatDoorW.PrintWords
open Go.RowKit
end Go.Proofs.YtcaaadaikfnbaaaGreatDoorW.PrintWords
namespace Go.Proofs.YtcaaadaikfnbaaaGreatDoorW.PrintLast
section
variable {ops : Array Oper} {a : Act} {o og : Oper} {g : Nat} {t : Tmp} {u : Bool}
end
end Go.Proofs.YtcaaadaikfnbaaaGreatDoorW.PrintLast
