/- What is to be shown of what the law's code computes: the law InterchangeBefore. -/
import Derived.Test.YtghnjnegcdbgnaaDoorJInterchangeBefore5
import Derived.Test.YtghnjnegcdbgnaaDoorQOpens
namespace Go.Proofs.YtghnjnegcdbgnaaDoor.P
open Go.RowKit Go.Proofs.YtghnjnegcdbgnaaDoorW.PrintWords Go.Proofs.YtghnjnegcdbgnaaDoorW.PrintLast Go.Proofs.YtghnjnegcdbgnaaDoorW.PrintMore
def garmentlaw34_InterchangeBefore.Pured : Prop := ∀ (x0 : ByteArray) (x1 : ByteArray), wf9 x0 → wf9 x1 → ∃ k, garmentlaw34_InterchangeBefore.f k x0 x1 = some true
end Go.Proofs.YtghnjnegcdbgnaaDoor.P
