/- Words of the printer. -/
import Derived.Test.YtcaaadaikfnbaaaGreatDoorWN
set_option linter.all false
namespace Go.Proofs.YtcaaadaikfnbaaaGreatDoorW.PrintWords
open Go.RowKit
namespace Kd
section
variable {α : Type} {d : Kd α} {W : World} {g n : Nat} {S ok : Nat → Prop} {A : Option Addr} {ad : Addr} {xs : List α}
end
end Kd
end Go.Proofs.YtcaaadaikfnbaaaGreatDoorW.PrintWords
