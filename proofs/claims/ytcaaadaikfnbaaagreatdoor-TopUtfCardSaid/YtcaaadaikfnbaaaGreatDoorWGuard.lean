/- Words of the printer. -/
import Derived.Test.YtcaaadaikfnbaaaGreatDoorWWords
set_option linter.all false
namespace Go.Proofs.YtcaaadaikfnbaaaGreatDoorW.PrintWords
open Go.RowKit
section
variable {P : Program} {ops : Array Oper} {rest : List Oper} {o : Oper} {a : Act} {Q : Exit → Act → World → Prop} {W : World}
end
end Go.Proofs.YtcaaadaikfnbaaaGreatDoorW.PrintWords
