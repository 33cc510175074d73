/- The law's own example, run by the kernel. -/
import Derived.Test.YtgbidbhknffdoaaGreatDoorJ2
import Derived.Test.YtgbidbhknffdoaaGreatDoorQEv
namespace Go.Proofs.YtgbidbhknffdoaaGreatDoor
open Go Go.RowKit P
set_option maxRecDepth 100000 in
theorem example_run : garmentlaw35_exampleHolds.f 60 = some true := by decide +kernel
theorem example_ev : Ev garmentlaw35_exampleHolds.f true := Ev.of_mono garmentlaw35_exampleHolds.mono example_run
end Go.Proofs.YtgbidbhknffdoaaGreatDoor
