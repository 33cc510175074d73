/- What is to be shown of what the law's code computes: the law OrderTexts. -/
import Derived.Test.YtgbidbhknffdoaaGreatDoorJOrderTexts3
import Derived.Test.YtgbidbhknffdoaaGreatDoorQOpens
namespace Go.Proofs.YtgbidbhknffdoaaGreatDoor.P
open Go.RowKit Go.Proofs.YtgbidbhknffdoaaGreatDoorW.PrintWords Go.Proofs.YtgbidbhknffdoaaGreatDoorW.PrintLast Go.Proofs.YtgbidbhknffdoaaGreatDoorW.PrintMore
def garmentlaw35_OrderTexts.Pured : Prop := ∀ (x0 : ByteArray) (x1 : List (ByteArray)), wf9 x0 → wf23 x1 → ∃ k, garmentlaw35_OrderTexts.f k x0 x1 = some true
end Go.Proofs.YtgbidbhknffdoaaGreatDoor.P
