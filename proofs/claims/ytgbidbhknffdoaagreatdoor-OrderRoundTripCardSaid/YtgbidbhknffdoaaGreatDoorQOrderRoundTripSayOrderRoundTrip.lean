/- What is to be shown of what the law's code computes: the law OrderRoundTrip. -/
import Derived.Test.YtgbidbhknffdoaaGreatDoorJOrderRoundTrip4
import Derived.Test.YtgbidbhknffdoaaGreatDoorQOpens
namespace Go.Proofs.YtgbidbhknffdoaaGreatDoor.P
open Go.RowKit Go.Proofs.YtgbidbhknffdoaaGreatDoorW.PrintWords Go.Proofs.YtgbidbhknffdoaaGreatDoorW.PrintLast Go.Proofs.YtgbidbhknffdoaaGreatDoorW.PrintMore
def garmentlaw35_OrderRoundTrip.Pured : Prop := ∀ (x0 : List (Int)) (x1 : List (ByteArray)), wf22 x0 → wf23 x1 → ∃ k, garmentlaw35_OrderRoundTrip.f k x0 x1 = some true
end Go.Proofs.YtgbidbhknffdoaaGreatDoor.P
