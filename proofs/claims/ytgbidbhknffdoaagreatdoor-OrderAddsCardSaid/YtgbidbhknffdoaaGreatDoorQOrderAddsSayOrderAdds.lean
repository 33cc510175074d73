/- What is to be shown of what the law's code computes: the law OrderAdds. -/
import Derived.Test.YtgbidbhknffdoaaGreatDoorJOrderAdds4
import Derived.Test.YtgbidbhknffdoaaGreatDoorQOpens
namespace Go.Proofs.YtgbidbhknffdoaaGreatDoor.P
open Go.RowKit Go.Proofs.YtgbidbhknffdoaaGreatDoorW.PrintWords Go.Proofs.YtgbidbhknffdoaaGreatDoorW.PrintLast Go.Proofs.YtgbidbhknffdoaaGreatDoorW.PrintMore
def garmentlaw35_OrderAdds.Pured : Prop := ∀ (x0 : List (Int)) (x1 : List (Int)) (x2 : List (Int)), wf22 x0 → wf22 x1 → wf22 x2 → ∃ k, garmentlaw35_OrderAdds.f k x0 x1 x2 = some true
end Go.Proofs.YtgbidbhknffdoaaGreatDoor.P
