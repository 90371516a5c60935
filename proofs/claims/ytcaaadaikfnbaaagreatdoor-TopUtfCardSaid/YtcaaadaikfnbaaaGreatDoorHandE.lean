/- A text of this claim. -/
import Derived.Test.YtcaaadaikfnbaaaGreatDoorHandD
import Derived.KernelRfl
set_option linter.all false
namespace Go.Proofs.YtcaaadaikfnbaaaGreatDoor.HTopUtf
open Go Go.Ar Go.RowKit Go.Proofs.YtcaaadaikfnbaaaGreatDoorW.PrintWords Go.Proofs.YtcaaadaikfnbaaaGreatDoorW.PrintLast Go.Proofs.YtcaaadaikfnbaaaGreatDoorW.PrintMore
set_option maxRecDepth 100000
theorem awake_run : Ar.isTrue (quick Tryz.prog CE 10000 19 #[] known) = true := by kernel_rfl
def inkhorntop_awake.f : Option Bool := some true
theorem inkhorntop_awake.calls (r : Bool) (w : World) (hG : Glob w) (h : inkhorntop_awake.f = some r) :
    Calls Tryz.prog 19 #[] w fun e w' => e = .returned (.bool r) ∧ Below w.heap.size w w' := by
  cases h
  exact quick_true (C := CE) mixed same84 awake_run rfl rfl hG.known
end Go.Proofs.YtcaaadaikfnbaaaGreatDoor.HTopUtf
