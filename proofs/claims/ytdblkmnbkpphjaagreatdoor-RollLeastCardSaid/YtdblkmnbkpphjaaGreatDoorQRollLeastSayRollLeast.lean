/- What is to be shown of what the law's code computes: the law RollLeast. -/
import Derived.Test.YtdblkmnbkpphjaaGreatDoorJ3
import Derived.Test.YtdblkmnbkpphjaaGreatDoorQOpens
namespace Go.Proofs.YtdblkmnbkpphjaaGreatDoor.P
open Go.RowKit Go.Proofs.YtdblkmnbkpphjaaGreatDoorW.PrintWords Go.Proofs.YtdblkmnbkpphjaaGreatDoorW.PrintLast Go.Proofs.YtdblkmnbkpphjaaGreatDoorW.PrintMore
def garmentlaw27_RollLeast.Pured : Prop := ∀ (x0 : S26) (x1 : Int), wf26 x0 → wf3 x1 → ∃ k, garmentlaw27_RollLeast.f k x0.f0 x0.f1 x0.f2 x0.f3.f0 x0.f3.f1 x0.f3.f2 x0.f4 x1 = some true
end Go.Proofs.YtdblkmnbkpphjaaGreatDoor.P
