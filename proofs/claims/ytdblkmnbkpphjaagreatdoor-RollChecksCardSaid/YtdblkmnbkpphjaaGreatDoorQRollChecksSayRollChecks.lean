/- What is to be shown of what the law's code computes: the law RollChecks. -/
import Derived.Test.YtdblkmnbkpphjaaGreatDoorJ3
import Derived.Test.YtdblkmnbkpphjaaGreatDoorQOpens
namespace Go.Proofs.YtdblkmnbkpphjaaGreatDoor.P
open Go.RowKit Go.Proofs.YtdblkmnbkpphjaaGreatDoorW.PrintWords Go.Proofs.YtdblkmnbkpphjaaGreatDoorW.PrintLast Go.Proofs.YtdblkmnbkpphjaaGreatDoorW.PrintMore
def garmentlaw27_RollChecks.Pured : Prop := ∀ (x0 : S26), wf26 x0 → ∃ k, garmentlaw27_RollChecks.f k x0.f0 x0.f1 x0.f2 x0.f3.f0 x0.f3.f1 x0.f3.f2 x0.f4 = some true
end Go.Proofs.YtdblkmnbkpphjaaGreatDoor.P
