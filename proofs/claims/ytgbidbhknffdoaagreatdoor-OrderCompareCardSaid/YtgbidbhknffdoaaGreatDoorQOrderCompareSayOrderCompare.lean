/- What is to be shown of what the law's code computes: the law OrderCompare. -/
import Derived.Test.YtgbidbhknffdoaaGreatDoorJOrderCompare4
import Derived.Test.YtgbidbhknffdoaaGreatDoorQOpens
namespace Go.Proofs.YtgbidbhknffdoaaGreatDoor.P
open Go.RowKit Go.Proofs.YtgbidbhknffdoaaGreatDoorW.PrintWords Go.Proofs.YtgbidbhknffdoaaGreatDoorW.PrintLast Go.Proofs.YtgbidbhknffdoaaGreatDoorW.PrintMore
def garmentlaw35_OrderCompare.Pured : Prop := ∀ (x0 : List (Int)) (x1 : List (Int)), wf22 x0 → wf22 x1 → ∃ k, garmentlaw35_OrderCompare.f k x0 x1 = some true
end Go.Proofs.YtgbidbhknffdoaaGreatDoor.P
